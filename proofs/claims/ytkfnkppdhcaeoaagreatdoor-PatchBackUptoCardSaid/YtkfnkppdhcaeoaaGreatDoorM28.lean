/- PART: what the law PatchBack stands on. -/
import Derived.Deep.DeepHandedRow
import Derived.Deep.DeepWitnessRowRef
import Derived.Lib.LaidIn
import Derived.OpenShut
import Derived.ProofKit
import Derived.SizedLaws
import Derived.Stop.LaidErr
import Derived.Test.YtkfnkppdhcaeoaaGreatDoorCards
import Derived.Test.YtkfnkppdhcaeoaaGreatDoorTie
import Derived.WideKeyArgs
import Derived.Test.YtkfnkppdhcaeoaaGreatDoorM27
set_option maxRecDepth 100000
set_option maxHeartbeats 32000000
set_option linter.all false
namespace Go.Proofs.YtkfnkppdhcaeoaaGreatDoor
open Go renaming TypeId->Ti,Value->Vl,World->Wl
section
open _root_.Go.Proofs.Tryz
open Go Go.RowKit Go.ChangeShapes Go.WideShapes Tree
theorem F4:prog.cellsOf 9=1:=Yb
theorem LV:prog.cellsOf 3=1:=Yb
theorem Qx:prog.cellsOf 70=1:=Yb
theorem Qv:prog.cellsOf 4=1:=Yb
theorem SS:prog.cellsOf 25=1:=Yb
theorem Qy:prog.cellsOf 27=1:=Yb
theorem KU:prog.cellsOf 72=6:=Yb
theorem OY:prog.cellsOf 22=1:=Yb
theorem NU:prog.cellsOf 42=4:=Yb
theorem Zc:((prog.fieldsOf 72).toList.map fun f=>(f.type,f.offset))=[(70,0),(4,1),(25,2),(9,3),(3,4),(27,5)]:=Yb
theorem Qw{w:Wl}{base n:Nat}{a:Addr}{cs:List Vl}(h:w.cells? base a n=some cs):cs.length=n/\∀i v,cs[i]? =some v->w.cell? (a.add i)=some v:=by
 unfold World.cells? at h;split at h
 .have b:=mapM_some_length h
  rw[List.length_range]at b;refine⟨b,fun i v c=> ?_⟩;have hi:i<n:=by rw[<-b];exact(Qc.1 c).1
  rw[mapM_some_get h i i (by simp[hi])];exact c
 .cases h
theorem Wi(a:Addr)(i j:Nat)(h:a.spot=none):(a.add i).add j=⟨a.block,a.off+(i+j),none⟩:=by
 obtain⟨b,o,s⟩:=a;subst h;unfold Addr.add;by_cases hi:i=0<;>by_cases c:j=0<;>simp_all[Nat.add_assoc]
theorem YS{w:Wl}{a:Addr}{v:Vl}(h:w.cell? a=some v):a.spot=none:=by
 unfold World.cell? at h;split at h
 .split at h
  .cases h
  .rename_i b
   cases c:a.spot with
   |none=>rfl
   |some x=>rw[c]at b;exact absurd rfl b
 .cases h
theorem Px{w:Wl}{base sz n:Nat}{a:Addr}{R:Nat->List Vl->Prop}(m:0<sz)(h:∀i,i<n->∃cs,w.cells? base (a.add (i*sz)) sz=some cs/\R i cs):
  ∀i,i<n->∃cs,R i cs/\cs.length=sz/\∀j v,cs[j]? =some v->a=⟨a.block,a.off,none⟩/\w.cell? ⟨a.block,a.off+(i*sz+j),none⟩=some v:=by
 intro i hi
 have f:a.spot=none:=by
  obtain⟨cs,c,_⟩:=h 0 Zj;obtain⟨e,d⟩:=Qw c;have:=d 0 _ (Q9 Zj);have g:=YS this;simpa[Addr.add]using g
 obtain⟨cs,c,k⟩:=h i hi;obtain⟨e,d⟩:=Qw c;refine⟨cs,k,e,fun j v l=>⟨by obtain⟨b,o,s⟩:=a;subst f;rfl, ?_⟩⟩;rw[<-Wi a _ _ f];exact d j v l
theorem ZE{cs:List Vl}(h:cs.length=6):∃g c1 i c3 c4 c5,cs=[g,c1,i,c3,c4,c5]:=by
 match cs,h with
 |[a,b,c,d,e,f],_=>exact⟨a,b,c,d,e,f,rfl⟩
theorem bH{H:Type}(d:DataW H):1<=Rows.uptoBulk d:=by
 cases d with
 |lit l=>cases l<;>simp[Rows.uptoBulk]
 |_=>simp[Rows.uptoBulk]
theorem Kg{H:Type}{d:DataW H}:∀{l:List (DataW H)},d∈l->Rows.uptoBulk d<=Rows.uptoBulkAll l
 |x::r,h=>by
  simp only[Rows.uptoBulkAll]
  rcases Qh.1 h with rfl|h
  .omega
  .have:=Kg h;omega
theorem Hw{H:Type}:∀(l:List (DataW H)),l.length<=Rows.uptoBulkAll l
 |[]=>by simp[Rows.uptoBulkAll]
 |x::r=>by have:=bH x;have:=Hw r;simp only[Rows.uptoBulkAll,Qj];omega
theorem FG{H:Type}(b:BY):Rows.uptoBulk (DataW.lit (H:=H) (.string b.data.toList))=b.size+1:=by
 simp[Rows.uptoBulk]
theorem NT{H:Type}:∀(ks:List BY),Rows.uptoBulkAll (ks.map fun k=>DataW.lit (H:=H) (.string k.data.toList))=Ay ks+ks.length
 |[]=>rfl
 |k::ks=>by
  have:=NT (H:=H) ks;simp only[List.map_cons,Rows.uptoBulkAll,FG,this,Ay,List.sum_cons,Qj];omega
def Sm{H:Type}(d:DataW H):Prop:=Rows.uptoBulk d<=1048576
theorem Vg{H:Type}{enc:Ti×Vl->H}{w:Wl}{b:Nat}{s:Nat->Bool}{B:Bool}{A:Nat}{cs:List Vl}{x:DataW H×List MemPlace}(h:DataW.trod enc prog w b s B A 27 cs=some x)(m:Sm x.1):
  ∃(a:Option Addr) (c:Nat) (ks:List BY),cs=[.slice a ks.length c]/\As w (.slice a ks.length c) 1 ks.length (Ad ks)/\ks.length<=1048576/\Ay ks<=1048576:=by
 rcases DataW.trod_slice underlying27 h with⟨rfl,_⟩|⟨a,o,p,g,rest,n,_,rfl,rfl,_,C,_,K,r,_,_⟩
 .exact⟨none,0,[],rfl,⟨none,0,rfl,Q8 _,rfl,fun i v d=>by simp[Ad]at d⟩,Zh,by simp[Ay]⟩
 .rw[F4]at r
  unfold Sm at m;simp only[Rows.uptoBulk]at m
  have E:=Px (w:=w) (base:=b) (sz:=1) (n:=o) (a:=a) (R:=fun i cs=>∃q:BY,cs=[.string q]/\(g[i]?).map (·.1)=some (.lit (.string q.data.toList))) ZM (fun i hi=>by
   have e:=r i hi;obtain⟨y,t⟩:∃y,g[i]? =some y:=⟨_,Q9 Zj⟩
   rw[t]at e;simp only[Option.bind_eq_some_iff]at e;obtain⟨cs,f,F⟩:=e;obtain⟨q,rfl,rfl,_⟩:=DataW.trod_string underlying9 F
   exact⟨_,f,q,rfl,by rw[t];rfl⟩)
  have I:∀k,k<=o->∃ks:List BY,ks.length=k/\(g.map (·.1)).take k=ks.map (fun q=>DataW.lit (.string q.data.toList))/\∀i v,(Ad ks)[i]? =some v->a=⟨a.block,a.off,none⟩/\w.cell? ⟨a.block,a.off+i,none⟩=some v:=by
   intro k
   induction k with
   |zero=>exact fun _=>⟨[],rfl,rfl,(fun i v d=>by simp[Ad]at d)⟩
   |succ k G=>
    intro L;obtain⟨ks,e,j,l⟩:=G Zj;obtain⟨cs,⟨q,rfl,D⟩,_,f⟩:=E k Zj;refine⟨ks++[q],by simp[e], ?_,fun i v d=> ?_⟩
    .rw[List.take_add_one,j,List.getElem?_map,D,List.map_append];rfl
    .unfold Ad at d
     rw[List.map_append]at d;by_cases hi:i<(ks.map Vl.string).length
     .rw[List.getElem?_append_left hi]at d
      exact l i v d
     .rw[List.getElem?_append_right Zj]at d
      rw[List.length_map,e]at hi d;have J:i-k<1:=by have:=(Qc.1 d).1;simpa using this
      have f:=f (i-k) v d;rwa[show k*1+(i-k)=i from by omega]at f
  obtain⟨ks,rfl,j,l⟩:=I o (Q8 _);have M:(g.map (·.1)).length=ks.length:=by rw[List.length_map];omega
  rw[Qn Zj]at j;rw[j,NT]at m;refine⟨some a,p,ks,rfl,⟨some a,p,rfl,C,by simp[Ad],fun i v d=> ?_⟩,Zj,Zj⟩;obtain⟨u,z⟩:=l i v d;exact⟨a.block,a.off,by rw[<-u],z⟩
theorem PB{ks:List BY}{k:BY}(h:k∈ks):k.size<=Ay ks:=by
 unfold Ay
 induction ks with
 |nil=>cases h
 |cons x r a=>
  rw[List.map_cons,List.sum_cons]
  rcases Qh.1 h with rfl|h
  .omega
  .have:=a h;omega
theorem Vf{H:Type}{enc:Ti×Vl->H}{w:Wl}{b:Nat}{s:Nat->Bool}{j:Bool}{R:Nat}{cs:List Vl}{x:DataW H×List MemPlace}(h:DataW.trod enc prog w b s j R 72 cs=some x)(L:Sm x.1):
  ∃(t:Ap) (sk:Vl),cs=AI t sk/\As w sk 1 t.keys.length (Ad t.keys)/\Di t:=by
 obtain⟨xs,m,_,rfl,K,ad,n⟩:=DataW.trod_struct underlying72 h;rw[KU]at K;have ae:xs.length=6:=ad
 obtain⟨y,z,A,q,B,C,rfl⟩:∃y z A q B C,xs=[y,z,A,q,B,C]:=by
  match xs,ae with
  |[a,b,c,d,e,f],_=>exact⟨a,b,c,d,e,f,rfl⟩
 have D:DataW.trod enc prog w b s j m 70 ((cs.drop 0).take (prog.cellsOf 70))=some y:=n 0 _ rfl;have E:DataW.trod enc prog w b s j m 4 ((cs.drop 1).take (prog.cellsOf 4))=some z:=n 1 _ rfl;have F:DataW.trod enc prog w b s j m 25 ((cs.drop 2).take (prog.cellsOf 25))=some A:=n 2 _ rfl;have G:DataW.trod enc prog w b s j m 9 ((cs.drop 3).take (prog.cellsOf 9))=some q:=n 3 _ rfl;have I:DataW.trod enc prog w b s j m 3 ((cs.drop 4).take (prog.cellsOf 3))=some B:=n 4 _ rfl;have J:DataW.trod enc prog w b s j m 27 ((cs.drop 5).take (prog.cellsOf 27))=some C:=n 5 _ rfl;rw[Qx]at D;rw[Qv]at E;rw[SS]at F;rw[F4]at G;rw[LV]at I;rw[Qy]at J;unfold Sm at L;simp only[List.map_cons,List.map_nil,Rows.uptoBulk,Rows.uptoBulkAll]at L;obtain⟨so,Y,_,_⟩:=DataW.trod_int underlying70 D;obtain⟨Q,r,_⟩:=DataW.trod_bool underlying4 E;obtain⟨p,u,_,aa⟩:=DataW.trod_int underlying25 F;obtain⟨o,Z,P,_⟩:=DataW.trod_string underlying9 G;obtain⟨O,h4,_,ab⟩:=DataW.trod_int underlying3 I;obtain⟨a,c,ks,h5,hR,af,ag⟩:=Vg J (show Rows.uptoBulk _<=_ by omega);have hb:=bounds_u64 aa;have hc:=bounds_i64 ab;have ht:o.size<=1048576:=by have r:=FG (H:=H) o;have u:Rows.uptoBulk q.1=o.size+1:=(by rw[P];exact r);omega
 refine⟨⟨so,Q,p.toNat,o,O,ks⟩,.slice a ks.length c, ?_,hR,⟨by show p.toNat<_;omega,by show o.size<=_;omega,by show ks.length<=_;omega,fun k hk=>by have u:k.size<=Ay ks:=PB hk;omega,by show Ay ks<=_;omega,hc⟩⟩
 have g:∀i v,(cs.drop i).take 1=[v]->cs[i]? =some v:=fun i v h=>by
  have:=congrArg (fun l=>l[0]?) h;simpa[List.getElem?_take,List.getElem?_drop]using this
 have S:=g 0 _ Y;have T:=g 1 _ r;have U:=g 2 _ u;have V:=g 3 _ Z;have W:=g 4 _ h4;have X:=g 5 _ h5;obtain⟨M,c1,N,c3,c4,c5,rfl⟩:=ZE K;obtain rfl:M=_:=Q5 S;obtain rfl:c1=_:=Q5 T;obtain rfl:N=_:=Q5 U;obtain rfl:c3=_:=Q5 V;obtain rfl:c4=_:=Q5 W;obtain rfl:c5=_:=Q5 X
 show _=[_,_,_,_,_,_]
 rw[show(((p.toNat:Nat):Int))=p from by omega]
theorem MA{H:Type}{enc:Ti×Vl->H}{w:Wl}{b:Nat}{s:Nat->Bool}{A:Bool}{I:Nat}{cs:List Vl}{x:DataW H×List MemPlace}(h:DataW.trod enc prog w b s A I 22 cs=some x)(D:Sm x.1):
  ∃(a:Option Addr) (c:Nat) (l:List Ap) (xs:List Vl),cs=[.slice a l.length c]/\As w (.slice a l.length c) 6 l.length xs/\Az w l xs/\(∀s∈l,Di s)/\l.length<=1048576:=by
 rcases DataW.trod_slice underlying22 h with⟨rfl,_⟩|⟨a,p,B,q,rest,n,_,rfl,rfl,_,L,_,T,C,_,_⟩
 .exact⟨none,0,[],[],rfl,⟨none,0,rfl,Q8 _,rfl,fun i v e=>by simp at e⟩,by simp[Az],(fun k o=>by cases o),Zh⟩
 .rw[KU]at C
  unfold Sm at D;simp only[Rows.uptoBulk]at D;have P:∀d∈q.map (·.1),Sm d:=fun d A=>by have:=Kg A;unfold Sm;omega
  have N:=Px (w:=w) (base:=b) (sz:=6) (n:=p) (a:=a) (R:=fun i cs=>∃(t:Ap) (sk:Vl),cs=AI t sk/\As w sk 1 t.keys.length (Ad t.keys)/\Di t) ZM (fun i hi=>by
   have f:=C i hi;obtain⟨y,E⟩:∃y,q[i]? =some y:=⟨_,Q9 Zj⟩
   rw[E]at f;simp only[Option.bind_eq_some_iff]at f;obtain⟨cs,g,O⟩:=f
   exact⟨_,g,Vf O (P y.1 (List.mem_map.2 ⟨y,Qi E,rfl⟩))⟩)
  have M:p<=1048576:=by have:=Hw (q.map (·.1));rw[List.length_map]at this;omega
  have S:∀k,k<=p->∃(l:List Ap) (xs:List Vl),l.length=k/\xs.length=k*6/\Az w l xs/\(∀s∈l,Di s)/\∀i v,xs[i]? =some v->a=⟨a.block,a.off,none⟩/\w.cell? ⟨a.block,a.off+i,none⟩=some v:=by
   intro k
   induction k with
   |zero=>exact fun _=>⟨[],[],rfl,rfl,by simp[Az],(fun k o=>by cases o),(fun i v e=>by simp at e)⟩
   |succ k Q=>
    intro o;obtain⟨l,xs,f,m,r,u,z⟩:=Q Zj;obtain⟨cs,⟨t,sk,rfl,J,K⟩,_,g⟩:=N k Zj;refine⟨l++[t],xs++AI t sk,by simp[f],by rw[Qk,m];show _+6=_;omega,r.append ⟨sk,[],Zh,J,by simp[Az]⟩,fun s j=> ?_,fun i v e=> ?_⟩
    .rcases Qf.1 j with j|j
     .exact u s j
     .rw[List.mem_singleton.1 j];exact K
    .by_cases hi:i<xs.length
     .rw[List.getElem?_append_left hi]at e
      exact z i v e
     .rw[List.getElem?_append_right Zj,m]at e
      have g:=g (i-k*6) v e;rwa[show k*6+(i-k*6)=i from by omega]at g
  obtain⟨l,xs,rfl,m,r,u,z⟩:=S p (Q8 _);refine⟨some a,B,l,xs,rfl,⟨some a,B,rfl,L,m,fun i v e=> ?_⟩,r,u,M⟩;obtain⟨F,G⟩:=z i v e;exact⟨a.block,a.off,by rw[<-F],G⟩
theorem Yr{cs:List Vl}(h:cs.length=4):∃e c1 f c3,cs=[e,c1,f,c3]:=by
 match cs,h with
 |[a,b,c,d],_=>exact⟨a,b,c,d,rfl⟩
def gH(t:Bq):Prop:=T7 t/\t.path.size<=1048576/\t.frm.size<=1048576
theorem YD{H:Type}{enc:Ti×Vl->H}{w:Wl}{b:Nat}{s:Nat->Bool}{j:Bool}{I:Nat}{cs:List Vl}{x:DataW H×List MemPlace}(h:DataW.trod enc prog w b s j I 42 cs=some x)(C:Sm x.1):
  ∃(t:Bq) (sv:Vl) (ys:List Vl),cs=BJ t sv/\As w sv 6 t.steps.length ys/\Az w t.steps ys/\gH t:=by
 obtain⟨xs,m,_,rfl,B,U,k⟩:=DataW.trod_struct underlying42 h;rw[NU]at B;have V:xs.length=4:=U
 obtain⟨q,n,o,r,rfl⟩:∃q n o r,xs=[q,n,o,r]:=by
  match xs,V with
  |[a,b,c,d],_=>exact⟨a,b,c,d,rfl⟩
 have u:DataW.trod enc prog w b s j m 3 ((cs.drop 0).take (prog.cellsOf 3))=some q:=k 0 _ rfl;have y:DataW.trod enc prog w b s j m 9 ((cs.drop 1).take (prog.cellsOf 9))=some n:=k 1 _ rfl;have z:DataW.trod enc prog w b s j m 9 ((cs.drop 2).take (prog.cellsOf 9))=some o:=k 2 _ rfl;have A:DataW.trod enc prog w b s j m 22 ((cs.drop 3).take (prog.cellsOf 22))=some r:=k 3 _ rfl;rw[LV]at u;rw[F4]at y z;rw[OY]at A;unfold Sm at C;simp only[List.map_cons,List.map_nil,Rows.uptoBulk,Rows.uptoBulkAll]at C;obtain⟨W,N,_,_⟩:=DataW.trod_int underlying3 u;obtain⟨pa,f,F,_⟩:=DataW.trod_string underlying9 y;obtain⟨e,p,G,_⟩:=DataW.trod_string underlying9 z;obtain⟨a,c,l,ys,O,Q,R,P,X⟩:=MA A (show Rows.uptoBulk _<=_ by omega);have S:pa.size<=1048576:=by have f:=FG (H:=H) pa;have p:Rows.uptoBulk n.1=pa.size+1:=(by rw[F];exact f);omega
 have T:e.size<=1048576:=by have f:=FG (H:=H) e;have p:Rows.uptoBulk o.1=e.size+1:=(by rw[G];exact f);omega
 refine⟨⟨W,pa,e,l⟩,.slice a l.length c,ys, ?_,Q,R,⟨by show pa.size<=_;omega,by show e.size<=_;omega,P,by show l.length<=_;omega⟩,S,T⟩
 have g:∀i v,(cs.drop i).take 1=[v]->cs[i]? =some v:=fun i v h=>by
  have:=congrArg (fun l=>l[0]?) h;simpa[List.getElem?_take,List.getElem?_drop]using this
 have J:=g 0 _ N;have K:=g 1 _ f;have L:=g 2 _ p;have M:=g 3 _ O;obtain⟨D,c1,E,c3,rfl⟩:=Yr B;obtain rfl:D=_:=Q5 J;obtain rfl:c1=_:=Q5 K;obtain rfl:E=_:=Q5 L;obtain rfl:c3=_:=Q5 M;rfl
theorem Rt{H:Type}{enc:Ti×Vl->H}{w:Wl}{b:Nat}{s:Nat->Bool}{B:Bool}{K:Nat}{cs:List Vl}{x:DataW H×List MemPlace}(h:DataW.trod enc prog w b s B K 23 cs=some x)(F:Sm x.1):
  ∃(a:Option Addr) (c:Nat) (l:List Bq) (xs:List Vl),cs=[.slice a l.length c]/\UG w (.slice a l.length c) l xs/\∀o∈l,o.path.size<=1048576/\o.frm.size<=1048576:=by
 rcases DataW.trod_slice underlying23 h with⟨rfl,_⟩|⟨a,r,D,u,rest,n,_,rfl,rfl,_,O,_,V,E,_,_⟩
 .exact⟨none,0,[],[],rfl,⟨⟨none,0,rfl,Q8 _,rfl,fun i v e=>by simp at e⟩,rfl,(fun k f=>by cases f),Zh⟩,fun k f=>by cases f⟩
 .rw[NU]at E
  unfold Sm at F;simp only[Rows.uptoBulk]at F;have S:∀d∈u.map (·.1),Sm d:=fun d B=>by have:=Kg B;unfold Sm;omega
  have P:=Px (w:=w) (base:=b) (sz:=4) (n:=r) (a:=a) (R:=fun i cs=>∃(t:Bq) (sv:Vl) (ys:List Vl),cs=BJ t sv/\As w sv 6 t.steps.length ys/\Az w t.steps ys/\gH t) ZM (fun i hi=>by
   have g:=E i hi;obtain⟨y,G⟩:∃y,u[i]? =some y:=⟨_,Q9 Zj⟩
   rw[G]at g;simp only[Option.bind_eq_some_iff]at g;obtain⟨cs,j,Q⟩:=g
   exact⟨_,j,YD Q (S y.1 (List.mem_map.2 ⟨y,Qi G,rfl⟩))⟩)
  have W:r<=1048576:=by have:=Hw (u.map (·.1));rw[List.length_map]at this;omega
  have U:∀k,k<=r->∃(l:List Bq) (xs:List Vl),l.length=k/\xs.length=k*4/\Cc w l xs/\(∀o∈l,gH o)/\∀i v,xs[i]? =some v->a=⟨a.block,a.off,none⟩/\w.cell? ⟨a.block,a.off+i,none⟩=some v:=by
   intro k
   induction k with
   |zero=>exact fun _=>⟨[],[],rfl,rfl,rfl,(fun k f=>by cases f),(fun i v e=>by simp at e)⟩
   |succ k T=>
    intro f;obtain⟨l,xs,g,p,z,q,A⟩:=T Zj;obtain⟨cs,⟨t,sv,ys,rfl,M,N,L⟩,_,j⟩:=P k Zj;refine⟨l++[t],xs++BJ t sv,by simp[g],by rw[Qk,p];show _+4=_;omega,z.append ⟨sv,ys,[],Zh,M,N,rfl⟩,fun s m=> ?_,fun i v e=> ?_⟩
    .rcases Qf.1 m with m|m
     .exact q s m
     .rw[List.mem_singleton.1 m];exact L
    .by_cases hi:i<xs.length
     .rw[List.getElem?_append_left hi]at e
      exact A i v e
     .rw[List.getElem?_append_right Zj,p]at e
      have j:=j (i-k*4) v e;rwa[show k*4+(i-k*4)=i from by omega]at j
  obtain⟨l,xs,rfl,p,z,q,A⟩:=U r (Q8 _);refine⟨some a,D,l,xs,rfl,⟨⟨some a,D,rfl,O,p,fun i v e=> ?_⟩,z,fun o C=>(q o C).1,Zj⟩,fun o C=>(q o C).2⟩;obtain⟨I,J⟩:=A i v e;exact⟨a.block,a.off,by rw[<-I],J⟩
end
section
open _root_.Go.Proofs.Tryz
open Go Go.RowKit Go.ChangeShapes Go.WideShapes Go.ChangeAt
theorem Xm:ownKnob prog.godebug=none:=Yb
theorem Sl: "*" ++ "errors.errorString" = "*errors.errorString" :=ZM
theorem Ur(u:Ti)(h:prog.typeName? 3 u=some "*errors.errorString"):u=394:=
 typeName_ptr_named (nm:= "errors.errorString") (by rw[Sl];kernel_rfl) Yb ZM u (by rw[Sl];exact h)
theorem Yx:((begin prog (fun _ _=>0) default).world.heap[2]?).bind Obj.row? =some (#[.int .i64 0],3):=Yb
theorem WU:prog.buildable 3=true:=Yb
theorem U9:prog.cellTypes prog.depth 3=some [3]:=Yb
theorem SP:(begin prog (fun _ _=>0) default).world.heap.size=15:=Yb
theorem N4:prog.globals.size=10:=Yb
theorem UM{W:Wl}{g:Nat}{cs:Array Vl}{T:Ti}{v:Vl}(h:W.heap[g]? =some (.cells cs T (0,0)))(a:cs[0]? =some v):W.cell? ⟨g,0,none⟩=some v:=by
 simp only[World.cell?,h];exact a
def az:DataW Unit->List Vl
 | .lit (.int k z)=>[.int k z]
 | .agg [.lit (.int k z),.lit (.int a b)]=>[.int k z,.int a b]
 |_=>[]
def LU:DataW Unit->Array Vl
 | .agg l=>(l.flatMap az).toArray
 |_=>#[]
def Zd:DataW Unit->BY
 | .iface _ (.ptr (.agg [.lit (.string l)]))=>⟨l.toArray⟩
 |_=>⟨#[]⟩
def TJ(h:Array Obj)(g:Nat)(cs:Array Vl):Array Obj:=h.modify g fun
 | .cells _ t frozen=> .cells cs t frozen
 |o=>o
theorem Chg.keptBut{w w':Wl}(h:Chg w w' [])(a:MemPlace->Prop):w.keptBut w' a:=by
 refine⟨h.os,h.output,fun i hi=> ?_⟩;rw[h.block i hi Zh];exact(World.keptBut_refl w a).2.2 i hi
theorem Pq{H:Type}{enc:Ti×Vl->H}{P:Program}{f:Func}{s:ChangeSpec}{m y A x:Bool}{W d:Wl}{args:Array Vl}{v:Vl}{h i:List (DataW H)}{c pa pv:List MemPlace}(k:DataW.Whole enc P f.params.toList s.vars m W args.toList h i c)(u:∀(b:Nat) (e:Nat->Bool) (B:Bool),DataW.TrodAll enc P d b e B f.resultTypes.toList (v.resultList f.resultTypes.size) (s.fn H (h++i)).results [])(n:∀e:Nat->Bool,(∀p∈c,e p.block=true)->DataW.TrodAll enc P d 0 e true f.params.toList args.toList (s.fn H (h++i)).args pa)(w:∀e:Nat->Bool,(∀p∈c,e p.block=true)->DataW.TrodVars enc P d e s.vars (s.fn H (h++i)).vars pv)(l:c=pa++pv)(D:W.keptBut d (·∈c))(C:∀b g,b<W.heap.size->d.frozen? ⟨b,g,none⟩=W.frozen? ⟨b,g,none⟩)(G:∀(j:Nat) (t:Ti) (r:Vl),f.resultTypes[j]? =some t->(v.resultList f.resultTypes.size)[j]? =some r->Vl.okWide P d .any 0 t r):
  s.post enc P f m y A x W args v d:=by
 have E:∀p∈c,p.block<W.heap.size:=fun p a=>k.lt p a
 have q:∀p∈c,(fun b=>decide (b<W.heap.size)) p.block=true:=fun p a=>by simpa using k.lt p a
 refine⟨h,i,c,[],pa,pv,k,u _ _ _,n _ q,w _ q,World.keptBut_mono (fun p a=>⟨a, ?_⟩) D,fun _=> ?_⟩
 .rw[l,Qf]at a
  exact Or.inr a
 .obtain⟨_,_,_,_,_,I,F⟩:=k
  refine⟨G,_,_,([]++pa)++pv,⟨[]++pa,pv,trodAll_append (n _ (fun _ _=>rfl)) (u _ _ _),w _ (fun _ _=>rfl),rfl, ?_, ?_⟩, ?_⟩
  .intro b g a
   have o:MemPlace.cell b g∈c:=by rw[l];simpa using a
   rw[C b g (E _ o)];exact I b g o
  .intro z
   have:=F z;rw[l]at this;simpa using this
  .intro p a _
   rw[l];simpa using a
theorem Me:laidOutB prog=true:=Yb
theorem Chg.sameAt{w w':Wl}(h:Chg w w' []){p:MemPlace}(a:p.block<w.heap.size):w.sameAt w' p:=by
 cases p with
 |cell b c=>exact h.cell (p:=⟨b,c,Option.none⟩) a Zh
 |map b=>exact h.block b a Zh
end
theorem backBase:True:=trivial
end Go.Proofs.YtkfnkppdhcaeoaaGreatDoor

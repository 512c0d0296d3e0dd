/- Part 21 of the proof of both cards. -/
import Derived.Deep.DeepHandedRow
import Derived.Deep.DeepWitnessRowRef
import Derived.Lib.LaidIn
import Derived.OpenShut
import Derived.ProofKit
import Derived.SizedLaws
import Derived.Stop.LaidErr
import Derived.Test.YtpdnhfkacgdocaaGreatDoorCards
import Derived.Test.YtpdnhfkacgdocaaGreatDoorTie
import Derived.WideKeyArgs
import Derived.Test.YtpdnhfkacgdocaaGreatDoorM20
set_option maxRecDepth 100000
set_option maxHeartbeats 32000000
set_option linter.all false
namespace Go.Proofs.YtpdnhfkacgdocaaGreatDoor
open Go renaming Calls->Cl,TypeId->Ti,Value->Vl,World->Wl
open Go.Value renaming agg->nA,int->nI,slice->nS,string->nG
open Go.IntKind renaming i64->nX
open Go.Ending renaming returned->nR
open Go.Obj renaming cells->nC
open Option renaming none->nN,some->nM
section
open _root_.Go.Proofs.Tryz
open Go Go.RowKit Go.ChangeShapes Go.WideShapes Tree
variable{a:Addr}{A j:Bool}{cs:List Vl}{b base n:Nat}{s:Nat->Bool}{p:Prop}{H:Type}{w:Wl}
theorem F4:prog.cellsOf 9=1:=Yb
theorem LV:prog.cellsOf 3=1:=Yb
theorem Qx:prog.cellsOf 53=1:=Yb
theorem Qv:prog.cellsOf 4=1:=Yb
theorem SS:prog.cellsOf 25=1:=Yb
theorem Qy:prog.cellsOf 27=1:=Yb
theorem KU:prog.cellsOf 55=6:=Yb
theorem OY:prog.cellsOf 22=1:=Yb
theorem NU:prog.cellsOf 42=4:=Yb
theorem Qw(h:w.cells? base a n=some cs):cs.length=n/\∀i v,cs[i]? =some v->w.cell? (a.add i)=some v:=by
 unfold World.cells? at h;split at h
 .have b:=mapM_some_length h;rw[List.length_range]at b;refine⟨b,fun i v c=> ?_⟩;have hi:i<n:=by rw[<-b];exact(Qc.1 c).1
  rw[mapM_some_get h i i (by simp[hi])];exact c
 .cases h
theorem Wi(a:Addr)(i j:Nat)(h:a.spot=none):(a.add i).add j=⟨a.block,a.off+(i+j),none⟩:=by
 obtain⟨b,o,s⟩:=a;subst h;unfold Addr.add;by_cases hi:i=0<;>by_cases c:j=0<;>simp_all[Nat.add_assoc]
theorem YS{v:Vl}(h:w.cell? a=some v):a.spot=none:=by
 unfold World.cell? at h;split at h
 .split at h
  .cases h
  .rename_i b;cases c:a.spot with
   |none=>rfl
   |some x=>rw[c]at b;exact absurd rfl b
 .cases h
theorem Px{sz:Nat}{R:Nat->List Vl->Prop}(m:0<sz)(h:∀i,i<n->∃cs,w.cells? base (a.add (i*sz)) sz=some cs/\R i cs):
  ∀i,i<n->∃cs,R i cs/\cs.length=sz/\∀j v,cs[j]? =some v->a=⟨a.block,a.off,none⟩/\w.cell? ⟨a.block,a.off+(i*sz+j),none⟩=some v:=by
 intro i hi
 have f:a.spot=none:=by
  obtain⟨cs,c,_⟩:=h 0 Zj;obtain⟨e,d⟩:=Qw c;have:=d 0 _ (Q9 Zj);have g:=YS this;simpa[Addr.add]using g
 obtain⟨cs,c,k⟩:=h i hi;obtain⟨e,d⟩:=Qw c;refine⟨cs,k,e,fun j v l=>⟨by obtain⟨b,o,s⟩:=a;subst f;rfl, ?_⟩⟩;rw[<-Wi a _ _ f];exact d j v l
theorem z1h(h:p:=by
 match cs,h with
 |[a,b,c,d,e,f],_=>exact⟨a,b,c,d,e,f,rfl⟩):p:=h
theorem ZE(h:cs.length=6):∃g c1 i c3 c4 c5,cs=[g,c1,i,c3,c4,c5]:=by
 exact z1h
theorem bH(d:DataW H):1<=Rows.uptoBulk d:=by
 cases d with
 |lit l=>cases l<;>simp[Rows.uptoBulk]
 |_=>simp[Rows.uptoBulk]
theorem Kg{d:DataW H}:∀{l:List (DataW H)},d∈l->Rows.uptoBulk d<=Rows.uptoBulkAll l
 |x::r,h=>by
  simp only[Rows.uptoBulkAll];rcases Qh.1 h with rfl|h
  .omega
  .have:=Kg h;omega
theorem Hw:∀(l:List (DataW H)),l.length<=Rows.uptoBulkAll l
 |[]=>by simp[Rows.uptoBulkAll]
 |x::r=>by have:=bH x;have:=Hw r;simp only[Rows.uptoBulkAll,Qj];omega
theorem FG(b:BY):Rows.uptoBulk (DataW.lit (H:=H) (.string b.data.toList))=b.size+1:=by
 simp[Rows.uptoBulk]
theorem NT{H:Type}:∀(ks:List BY),Rows.uptoBulkAll (ks.map fun k=>DataW.lit (H:=H) (.string k.data.toList))=Ay ks+ks.length
 |[]=>rfl
 |k::ks=>by
  have:=NT (H:=H) ks;simp only[List.map_cons,Rows.uptoBulkAll,FG,this,Ay,List.sum_cons,Qj];omega
def Sm{H:Type}(d:DataW H):Prop:=Rows.uptoBulk d<=1048576
theorem Vg{enc:Ti×Vl->H}{z:Nat}{x:DataW H×List MemPlace}(h:DataW.trod enc prog w b s A z 27 cs=some x)(m:Sm x.1):
  ∃(a:Option Addr) (c:Nat) (ks:List BY),cs=[.slice a ks.length c]/\As w (.slice a ks.length c) 1 ks.length (Ad ks)/\ks.length<=1048576/\Ay ks<=1048576:=by
 rcases DataW.trod_slice underlying27 h with⟨rfl,_⟩|⟨a,o,cap,g,rest,n,_,rfl,rfl,_,B,_,J,p,_,_⟩
 .exact⟨none,0,[],rfl,⟨none,0,rfl,Q8 _,rfl,fun i v d=>by simp[Ad]at d⟩,Zh,by simp[Ay]⟩
 .rw[F4]at p;unfold Sm at m;simp only[Rows.uptoBulk]at m
  have D:=Px (w:=w) (base:=b) (sz:=1) (n:=o) (a:=a) (R:=fun i cs=>∃q:BY,cs=[.string q]/\(g[i]?).map (·.1)=some (.lit (.string q.data.toList))) ZM (fun i hi=>by
   have e:=p i hi;obtain⟨y,r⟩:∃y,g[i]? =some y:=⟨_,Q9 Zj⟩;rw[r]at e;simp only[Option.bind_eq_some_iff]at e;obtain⟨cs,f,E⟩:=e;obtain⟨q,rfl,rfl,_⟩:=DataW.trod_string underlying9 E
   exact⟨_,f,q,rfl,by rw[r];rfl⟩)
  have G:∀k,k<=o->∃ks:List BY,ks.length=k/\(g.map (·.1)).take k=ks.map (fun q=>DataW.lit (.string q.data.toList))/\∀i v,(Ad ks)[i]? =some v->a=⟨a.block,a.off,none⟩/\w.cell? ⟨a.block,a.off+i,none⟩=some v:=by
   intro k;induction k with
   |zero=>exact fun _=>⟨[],rfl,rfl,(fun i v d=>by simp[Ad]at d)⟩
   |succ k F=>
    intro K;obtain⟨ks,e,j,l⟩:=F Zj;obtain⟨cs,⟨q,rfl,C⟩,_,f⟩:=D k Zj;refine⟨ks++[q],by simp[e], ?_,fun i v d=> ?_⟩
    .rw[List.take_add_one,j,List.getElem?_map,C,List.map_append];rfl
    .unfold Ad at d;rw[List.map_append]at d;by_cases hi:i<(ks.map Vl.string).length
     .rw[List.getElem?_append_left hi]at d;exact l i v d
     .rw[List.getElem?_append_right Zj]at d;rw[List.length_map,e]at hi d;have I:i-k<1:=by have:=(Qc.1 d).1;simpa using this
      have f:=f (i-k) v d;rwa[show k*1+(i-k)=i from by omega]at f
  obtain⟨ks,rfl,j,l⟩:=G o (Q8 _);have L:(g.map (·.1)).length=ks.length:=by rw[List.length_map];omega
  rw[Qn Zj]at j;rw[j,NT]at m;refine⟨some a,cap,ks,rfl,⟨some a,cap,rfl,B,by simp[Ad],fun i v d=> ?_⟩,Zj,Zj⟩;obtain⟨t,u⟩:=l i v d;exact⟨a.block,a.off,by rw[<-t],u⟩
theorem PB{ks:List BY}{k:BY}(h:k∈ks):k.size<=Ay ks:=by
 unfold Ay;induction ks with
 |nil=>cases h
 |cons x r a=>
  rw[List.map_cons,List.sum_cons];rcases Qh.1 h with rfl|h
  .omega
  .have:=a h;omega
theorem z1g(h:p:=by have:=congrArg (fun l=>l[0]?) h;simpa[List.getElem?_take,List.getElem?_drop]using this):p:=h
theorem Vf{enc:Ti×Vl->H}{R:Nat}{x:DataW H×List MemPlace}(h:DataW.trod enc prog w b s j R 55 cs=some x)(L:Sm x.1):
  ∃(t:Ap) (sk:Vl),cs=AI t sk/\As w sk 1 t.keys.length (Ad t.keys)/\Di t:=by
 obtain⟨xs,m,_,rfl,K,ad,n⟩:=DataW.trod_struct underlying55 h;rw[KU]at K;have ae:xs.length=6:=ad
 obtain⟨y,z,A,q,B,C,rfl⟩:∃y z A q B C,xs=[y,z,A,q,B,C]:=by
  match xs,ae with
  |[a,b,c,d,e,f],_=>exact⟨a,b,c,d,e,f,rfl⟩
 have D:DataW.trod enc prog w b s j m 53 ((cs.drop 0).take (prog.cellsOf 53))=some y:=n 0 _ rfl;have E:DataW.trod enc prog w b s j m 4 ((cs.drop 1).take (prog.cellsOf 4))=some z:=n 1 _ rfl;have F:DataW.trod enc prog w b s j m 25 ((cs.drop 2).take (prog.cellsOf 25))=some A:=n 2 _ rfl;have G:DataW.trod enc prog w b s j m 9 ((cs.drop 3).take (prog.cellsOf 9))=some q:=n 3 _ rfl;have I:DataW.trod enc prog w b s j m 3 ((cs.drop 4).take (prog.cellsOf 3))=some B:=n 4 _ rfl;have J:DataW.trod enc prog w b s j m 27 ((cs.drop 5).take (prog.cellsOf 27))=some C:=n 5 _ rfl;rw[Qx]at D;rw[Qv]at E;rw[SS]at F;rw[F4]at G;rw[LV]at I;rw[Qy]at J;unfold Sm at L;simp only[List.map_cons,List.map_nil,Rows.uptoBulk,Rows.uptoBulkAll]at L;obtain⟨so,Y,_,_⟩:=DataW.trod_int underlying53 D;obtain⟨Q,r,_⟩:=DataW.trod_bool underlying4 E;obtain⟨p,u,_,aa⟩:=DataW.trod_int underlying25 F;obtain⟨o,Z,P,_⟩:=DataW.trod_string underlying9 G;obtain⟨O,h4,_,ab⟩:=DataW.trod_int underlying3 I;obtain⟨a,c,ks,h5,hR,af,ag⟩:=Vg J (show Rows.uptoBulk _<=_ by omega);have hb:=bounds_u64 aa;have hc:=bounds_i64 ab;have ht:o.size<=1048576:=by have r:=FG (H:=H) o;have u:Rows.uptoBulk q.1=o.size+1:=(by rw[P];exact r);omega
 refine⟨⟨so,Q,p.toNat,o,O,ks⟩,.slice a ks.length c, ?_,hR,⟨by show p.toNat<_;omega,by show o.size<=_;omega,by show ks.length<=_;omega,fun k hk=>by have u:k.size<=Ay ks:=PB hk;omega,by show Ay ks<=_;omega,hc⟩⟩
 have g:∀i v,(cs.drop i).take 1=[v]->cs[i]? =some v:=fun i v h=>by
  exact z1g
 have S:=g 0 _ Y;have T:=g 1 _ r;have U:=g 2 _ u;have V:=g 3 _ Z;have W:=g 4 _ h4;have X:=g 5 _ h5;obtain⟨M,c1,N,c3,c4,c5,rfl⟩:=ZE K;obtain rfl:M=_:=Q5 S;obtain rfl:c1=_:=Q5 T;obtain rfl:N=_:=Q5 U;obtain rfl:c3=_:=Q5 V;obtain rfl:c4=_:=Q5 W;obtain rfl:c5=_:=Q5 X;show _=[_,_,_,_,_,_]
 rw[show(((p.toNat:Nat):Int))=p from by omega]
theorem MA{enc:Ti×Vl->H}{G:Nat}{x:DataW H×List MemPlace}(h:DataW.trod enc prog w b s A G 22 cs=some x)(C:Sm x.1):
  ∃(a:Option Addr) (c:Nat) (l:List Ap) (xs:List Vl),cs=[.slice a l.length c]/\As w (.slice a l.length c) 6 l.length xs/\Az w l xs/\(∀s∈l,Di s)/\l.length<=1048576:=by
 rcases DataW.trod_slice underlying22 h with⟨rfl,_⟩|⟨a,p,cap,q,rest,n,_,rfl,rfl,_,K,_,S,B,_,_⟩
 .exact⟨none,0,[],[],rfl,⟨none,0,rfl,Q8 _,rfl,fun i v e=>by simp at e⟩,by simp[Az],(fun k o=>by cases o),Zh⟩
 .rw[KU]at B;unfold Sm at C;simp only[Rows.uptoBulk]at C;have O:∀d∈q.map (·.1),Sm d:=fun d A=>by have:=Kg A;unfold Sm;omega
  have M:=Px (w:=w) (base:=b) (sz:=6) (n:=p) (a:=a) (R:=fun i cs=>∃(t:Ap) (sk:Vl),cs=AI t sk/\As w sk 1 t.keys.length (Ad t.keys)/\Di t) ZM (fun i hi=>by
   have f:=B i hi;obtain⟨y,D⟩:∃y,q[i]? =some y:=⟨_,Q9 Zj⟩;rw[D]at f;simp only[Option.bind_eq_some_iff]at f;obtain⟨cs,g,N⟩:=f
   exact⟨_,g,Vf N (O y.1 (List.mem_map.2 ⟨y,Qi D,rfl⟩))⟩)
  have L:p<=1048576:=by have:=Hw (q.map (·.1));rw[List.length_map]at this;omega
  have Q:∀k,k<=p->∃(l:List Ap) (xs:List Vl),l.length=k/\xs.length=k*6/\Az w l xs/\(∀s∈l,Di s)/\∀i v,xs[i]? =some v->a=⟨a.block,a.off,none⟩/\w.cell? ⟨a.block,a.off+i,none⟩=some v:=by
   intro k;induction k with
   |zero=>exact fun _=>⟨[],[],rfl,rfl,by simp[Az],(fun k o=>by cases o),(fun i v e=>by simp at e)⟩
   |succ k P=>
    intro o;obtain⟨l,xs,f,m,r,u,z⟩:=P Zj;obtain⟨cs,⟨t,sk,rfl,I,J⟩,_,g⟩:=M k Zj;refine⟨l++[t],xs++AI t sk,by simp[f],by rw[Qk,m];show _+6=_;omega,r.append ⟨sk,[],Zh,I,by simp[Az]⟩,fun s j=> ?_,fun i v e=> ?_⟩
    .rcases Qf.1 j with j|j
     .exact u s j
     .rw[List.mem_singleton.1 j];exact J
    .by_cases hi:i<xs.length
     .rw[List.getElem?_append_left hi]at e;exact z i v e
     .rw[List.getElem?_append_right Zj,m]at e;have g:=g (i-k*6) v e;rwa[show k*6+(i-k*6)=i from by omega]at g
  obtain⟨l,xs,rfl,m,r,u,z⟩:=Q p (Q8 _);refine⟨some a,cap,l,xs,rfl,⟨some a,cap,rfl,K,m,fun i v e=> ?_⟩,r,u,L⟩;obtain⟨E,F⟩:=z i v e;exact⟨a.block,a.off,by rw[<-E],F⟩
theorem Yr(h:cs.length=4):∃e c1 f c3,cs=[e,c1,f,c3]:=by
 match cs,h with
 |[a,b,c,d],_=>exact⟨a,b,c,d,rfl⟩
def gH(t:Bq):Prop:=T7 t/\t.path.size<=1048576/\t.frm.size<=1048576
theorem YD{enc:Ti×Vl->H}{I:Nat}{x:DataW H×List MemPlace}(h:DataW.trod enc prog w b s j I 42 cs=some x)(C:Sm x.1):
  ∃(t:Bq) (sv:Vl) (ys:List Vl),cs=BJ t sv/\As w sv 6 t.steps.length ys/\Az w t.steps ys/\gH t:=by
 obtain⟨xs,m,_,rfl,B,U,k⟩:=DataW.trod_struct underlying42 h;rw[NU]at B;have V:xs.length=4:=U
 obtain⟨q,n,o,r,rfl⟩:∃q n o r,xs=[q,n,o,r]:=by
  match xs,V with
  |[a,b,c,d],_=>exact⟨a,b,c,d,rfl⟩
 have u:DataW.trod enc prog w b s j m 3 ((cs.drop 0).take (prog.cellsOf 3))=some q:=k 0 _ rfl;have y:DataW.trod enc prog w b s j m 9 ((cs.drop 1).take (prog.cellsOf 9))=some n:=k 1 _ rfl;have z:DataW.trod enc prog w b s j m 9 ((cs.drop 2).take (prog.cellsOf 9))=some o:=k 2 _ rfl;have A:DataW.trod enc prog w b s j m 22 ((cs.drop 3).take (prog.cellsOf 22))=some r:=k 3 _ rfl;rw[LV]at u;rw[F4]at y z;rw[OY]at A;unfold Sm at C;simp only[List.map_cons,List.map_nil,Rows.uptoBulk,Rows.uptoBulkAll]at C;obtain⟨W,N,_,_⟩:=DataW.trod_int underlying3 u;obtain⟨pa,f,F,_⟩:=DataW.trod_string underlying9 y;obtain⟨e,p,G,_⟩:=DataW.trod_string underlying9 z;obtain⟨a,c,l,ys,O,Q,R,P,X⟩:=MA A (show Rows.uptoBulk _<=_ by omega);have S:pa.size<=1048576:=by have f:=FG (H:=H) pa;have p:Rows.uptoBulk n.1=pa.size+1:=(by rw[F];exact f);omega
 have T:e.size<=1048576:=by have f:=FG (H:=H) e;have p:Rows.uptoBulk o.1=e.size+1:=(by rw[G];exact f);omega
 refine⟨⟨W,pa,e,l⟩,.slice a l.length c,ys, ?_,Q,R,⟨by show pa.size<=_;omega,by show e.size<=_;omega,P,by show l.length<=_;omega⟩,S,T⟩
 have g:∀i v,(cs.drop i).take 1=[v]->cs[i]? =some v:=fun i v h=>by
  exact z1g
 have J:=g 0 _ N;have K:=g 1 _ f;have L:=g 2 _ p;have M:=g 3 _ O;obtain⟨D,c1,E,c3,rfl⟩:=Yr B;obtain rfl:D=_:=Q5 J;obtain rfl:c1=_:=Q5 K;obtain rfl:E=_:=Q5 L;obtain rfl:c3=_:=Q5 M;rfl
theorem Rt{enc:Ti×Vl->H}{B:Bool}{J:Nat}{x:DataW H×List MemPlace}(h:DataW.trod enc prog w b s B J 23 cs=some x)(E:Sm x.1):
  ∃(a:Option Addr) (c:Nat) (l:List Bq) (xs:List Vl),cs=[.slice a l.length c]/\UG w (.slice a l.length c) l xs/\∀o∈l,o.path.size<=1048576/\o.frm.size<=1048576:=by
 rcases DataW.trod_slice underlying23 h with⟨rfl,_⟩|⟨a,r,cap,u,rest,n,_,rfl,rfl,_,N,_,U,D,_,_⟩
 .exact⟨none,0,[],[],rfl,⟨⟨none,0,rfl,Q8 _,rfl,fun i v e=>by simp at e⟩,rfl,(fun k f=>by cases f),Zh⟩,fun k f=>by cases f⟩
 .rw[NU]at D;unfold Sm at E;simp only[Rows.uptoBulk]at E;have Q:∀d∈u.map (·.1),Sm d:=fun d B=>by have:=Kg B;unfold Sm;omega
  have O:=Px (w:=w) (base:=b) (sz:=4) (n:=r) (a:=a) (R:=fun i cs=>∃(t:Bq) (sv:Vl) (ys:List Vl),cs=BJ t sv/\As w sv 6 t.steps.length ys/\Az w t.steps ys/\gH t) ZM (fun i hi=>by
   have g:=D i hi;obtain⟨y,F⟩:∃y,u[i]? =some y:=⟨_,Q9 Zj⟩;rw[F]at g;simp only[Option.bind_eq_some_iff]at g;obtain⟨cs,j,P⟩:=g
   exact⟨_,j,YD P (Q y.1 (List.mem_map.2 ⟨y,Qi F,rfl⟩))⟩)
  have V:r<=1048576:=by have:=Hw (u.map (·.1));rw[List.length_map]at this;omega
  have T:∀k,k<=r->∃(l:List Bq) (xs:List Vl),l.length=k/\xs.length=k*4/\Cc w l xs/\(∀o∈l,gH o)/\∀i v,xs[i]? =some v->a=⟨a.block,a.off,none⟩/\w.cell? ⟨a.block,a.off+i,none⟩=some v:=by
   intro k;induction k with
   |zero=>exact fun _=>⟨[],[],rfl,rfl,rfl,(fun k f=>by cases f),(fun i v e=>by simp at e)⟩
   |succ k S=>
    intro f;obtain⟨l,xs,g,p,z,q,A⟩:=S Zj;obtain⟨cs,⟨t,sv,ys,rfl,L,M,K⟩,_,j⟩:=O k Zj;refine⟨l++[t],xs++BJ t sv,by simp[g],by rw[Qk,p];show _+4=_;omega,z.append ⟨sv,ys,[],Zh,L,M,rfl⟩,fun s m=> ?_,fun i v e=> ?_⟩
    .rcases Qf.1 m with m|m
     .exact q s m
     .rw[List.mem_singleton.1 m];exact K
    .by_cases hi:i<xs.length
     .rw[List.getElem?_append_left hi]at e;exact A i v e
     .rw[List.getElem?_append_right Zj,p]at e;have j:=j (i-k*4) v e;rwa[show k*4+(i-k*4)=i from by omega]at j
  obtain⟨l,xs,rfl,p,z,q,A⟩:=T r (Q8 _);refine⟨some a,cap,l,xs,rfl,⟨⟨some a,cap,rfl,N,p,fun i v e=> ?_⟩,z,fun o C=>(q o C).1,Zj⟩,fun o C=>(q o C).2⟩;obtain⟨G,I⟩:=A i v e;exact⟨a.block,a.off,by rw[<-G],I⟩
end
section
open _root_.Go.Proofs.Tryz
open Go Go.RowKit Go.ChangeShapes Go.WideShapes Go.ChangeAt
variable{v:Vl}{W w w':Wl}
theorem Xm:ownKnob prog.godebug=none:=Yb
theorem Sl: "*" ++ "errors.errorString" = "*errors.errorString" :=ZM
theorem Ur(u:Ti)(h:prog.typeName? 3 u=some "*errors.errorString"):u=347:=
 typeName_ptr_named (nm:= "errors.errorString") (by rw[Sl];kernel_rfl) Yb ZM u (by rw[Sl];exact h)
def Ul:List (String×DataW Unit):=Rows.patchAppliesUptoRow.laid
theorem Ta(W:Wl):laidMetH prog Ul W=laidMet prog [("math/bits.deBruijn32tab",Rows.laid_math_bits_deBruijn32tab),("math/bits.deBruijn64tab",Rows.laid_math_bits_deBruijn64tab),("internal/strconv.uint64pow10",Lib.tabData .u64 Lib.pow10Tab),("unicode/utf8.acceptRanges",Rows.laid_unicode_utf8_acceptRanges),("strconv.ErrRange",Rows.laid_strconv_ErrRange),("strconv.ErrSyntax",Rows.laid_strconv_ErrSyntax),("unicode/utf8.first",Rows.laid_unicode_utf8_first)] W:=Yb
theorem Yx:((begin prog (fun _ _=>0) default).world.heap[1]?).bind Obj.row? =some (#[.int .i64 0],3):=Yb
theorem WU:prog.buildable 3=true:=Yb
theorem U9:prog.cellTypes prog.depth 3=some [3]:=Yb
theorem SP:(begin prog (fun _ _=>0) default).world.heap.size=14:=Yb
theorem N4:prog.globals.size=9:=Yb
theorem UM{g:Nat}{cs:Array Vl}{T:Ti}(h:W.heap[g]? =some (.cells cs T (0,0)))(a:cs[0]? =some v):W.cell? ⟨g,0,none⟩=some v:=by
 simp only[World.cell?,h];exact a
theorem Yv(h:laidMetH prog Ul W)(i:W.ShapedOpen prog):Br W/\10<=W.heap.size:=by
 rw[Ta]at h;have b:=laidMet.tail (laidMet.tail h);have c:=laidMet.tail (laidMet.tail b);have f:=laidMet.tail c;have A:=Lib.tabIs_of_head (g:=4) Yb Yb underlying338 underlying25 Yb Yb b;obtain⟨B,D,w,_⟩:=laid_sentinel (g:=6) c Yb Yb underlying35 Ur underlying347 underlying349 rfl rfl underlying9 Yb Yb;obtain⟨C,E,x,_⟩:=laid_sentinel (g:=5) f Yb Yb underlying35 Ur underlying347 underlying349 rfl rfl underlying9 Yb Yb;obtain⟨y,z⟩:=i;obtain⟨cs,l,d,r⟩:=y 1 _ _ (by rw[N4];decide) Yx;obtain⟨ts,s,_,j⟩:=r WU;obtain rfl:=Q5 (U9.symm.trans s);obtain⟨v,e⟩:∃v,cs[0]? =some v:=⟨cs[0]'(by rw[d];decide),Array.getElem?_eq_getElem (by rw[d];decide)⟩;obtain⟨u,t,a⟩:=j 0 v e;obtain rfl:u=3:=by simpa using t.symm
 have p:∃m,v= .int .i64 m:=by
  unfold Cell.ok at a;rw[underlying3]at a;cases v with
  |int k n=>exact⟨n,by rw[a.1]⟩
  |_=>exact a.elim
 obtain⟨m,rfl⟩:=p;refine⟨⟨⟨m, ?_⟩,A,⟨_,_,x⟩,⟨_,_,w⟩⟩, ?_⟩
 .exact UM l e
 .obtain⟨o,_,q,_⟩:=z 13 (by rw[N4];decide) (by rw[SP];decide);have:=(Array.getElem?_eq_some_iff.1 q).1;omega
def az:DataW Unit->List Vl
 | .lit (.int k z)=>[.int k z]
 | .agg [.lit (.int k z),.lit (.int a b)]=>[.int k z,.int a b]
 |_=>[]
def LU:DataW Unit->Array Vl
 | .agg l=>(l.flatMap az).toArray
 |_=>#[]
def Zd:DataW Unit->BY
 | .iface _ (.ptr (.agg [.lit (.string l)]))=>⟨l.toArray⟩
 |_=>⟨#[]⟩
def TJ(h:Array Obj)(g:Nat)(cs:Array Vl):Array Obj:=h.modify g fun
 | .cells _ t frozen=> .cells cs t frozen
 |o=>o
noncomputable def Kn(os:Os):Wl:=
 let N:=(World.settled prog os).heap.size
 let w0:=World.holding prog os ⟨#[.cells #[.string (Zd Rows.laid_strconv_ErrSyntax)] 349,.cells #[.string (Zd Rows.laid_strconv_ErrRange)] 349],#[],[]⟩
 let a:=TJ (TJ w0.heap 5 #[.iface 347 (.pointer (some ⟨N,0,none⟩))]) 6 #[.iface 347 (.pointer (some ⟨N+1,0,none⟩))]
 let b:=TJ (TJ a 7 (LU Rows.laid_math_bits_deBruijn32tab)) 8 (LU Rows.laid_math_bits_deBruijn64tab)
 let c:=TJ (TJ b 4 (LU Rows.laid_internal_strconv_uint64pow10)) 3 (LU Rows.laid_unicode_utf8_acceptRanges)
 {w0 with heap:=TJ c 2 (LU Rows.laid_unicode_utf8_first)}
noncomputable abbrev N0:Nat:=(World.settled prog default).heap.size
theorem WK(os:Os)(args:Array Vl):laidMet prog Ul ((Kn os).forCall (fun _ _=>0) ⟨#[],args,[]⟩).memory:=
 (LaidIn.of_run [7,8,4,3,6,N0+1,5,N0,2] 8 Yb Yb Yb Yb).met
theorem Chg.keptBut(h:Chg w w' [])(a:MemPlace->Prop):w.keptBut w' a:=by
 refine⟨h.os,h.output,fun i hi=> ?_⟩;rw[h.block i hi Zh];exact(World.keptBut_refl w a).2.2 i hi
theorem Pq{H:Type}{enc:Ti×Vl->H}{P:Program}{f:Func}{s:ChangeSpec}{l x z w:Bool}{d:Wl}{args:Array Vl}{ds h:List (DataW H)}{c pa pv:List MemPlace}(i:DataW.Whole enc P f.params.toList s.vars l W args.toList ds h c)(q:∀(b:Nat) (e:Nat->Bool) (A:Bool),DataW.TrodAll enc P d b e A f.resultTypes.toList (v.resultList f.resultTypes.size) (s.fn H (ds++h)).results [])(m:∀e:Nat->Bool,(∀p∈c,e p.block=true)->DataW.TrodAll enc P d 0 e true f.params.toList args.toList (s.fn H (ds++h)).args pa)(u:∀e:Nat->Bool,(∀p∈c,e p.block=true)->DataW.TrodVars enc P d e s.vars (s.fn H (ds++h)).vars pv)(k:c=pa++pv)(C:W.keptBut d (·∈c))(B:∀b g,b<W.heap.size->d.frozen? ⟨b,g,none⟩=W.frozen? ⟨b,g,none⟩)(F:∀(j:Nat) (t:Ti) (r:Vl),f.resultTypes[j]? =some t->(v.resultList f.resultTypes.size)[j]? =some r->Vl.okWide P d .any 0 t r):
  s.post enc P f l x z w W args v d:=by
 have D:∀p∈c,p.block<W.heap.size:=fun p a=>i.lt p a;have o:∀p∈c,(fun b=>decide (b<W.heap.size)) p.block=true:=fun p a=>by simpa using i.lt p a
 refine⟨ds,h,c,[],pa,pv,i,q _ _ _,m _ o,u _ o,World.keptBut_mono (fun p a=>⟨a, ?_⟩) C,fun _=> ?_⟩
 .rw[k,Qf]at a;exact Or.inr a
 .obtain⟨_,_,_,_,_,G,E⟩:=i;refine⟨F,_,_,([]++pa)++pv,⟨[]++pa,pv,trodAll_append (m _ (fun _ _=>rfl)) (q _ _ _),u _ (fun _ _=>rfl),rfl, ?_, ?_⟩, ?_⟩
  .intro b g a;have n:MemPlace.cell b g∈c:=by rw[k];simpa using a
   rw[B b g (D _ n)];exact G b g n
  .intro y;have:=E y;rw[k]at this;simpa using this
  .intro p a _;rw[k];simpa using a
theorem Me:laidOutB prog=true:=Yb
theorem Chg.sameAt(h:Chg w w' []){p:MemPlace}(a:p.block<w.heap.size):w.sameAt w' p:=by
 cases p with
 |cell b c=>exact h.cell (p:=⟨b,c,Option.none⟩) a Zh
 |map b=>exact h.block b a Zh
end
section
open _root_.Go.Proofs.Tryz
open Go Go.RowKit Ptr Tree
variable{p:Prop}
theorem iv(s:BY)(w:Wl)(h:s.size<=16777216):Cl prog 82 #[nG s] w fun e w'=>e= nR (.bool (AD s).isNone)/\Chg w w' []:=by
 have a:=hZ (jm s w h);unfold gO at a;cases c:AD s with
 |some ts=>
  rw[c]at a;clear c;go_enter func82,ntmps82;go_wp2_with(go_at_call 43;refine a.o.mono ?_;rintro e i ⟨⟨j,rfl,_,_⟩,b⟩;have d:=hZ b;clear b);go_ret;exact⟨rfl,d.o⟩
 |none=>
  rw[c]at a;clear c;go_enter func82,ntmps82;go_wp2_with(go_at_call 43;refine a.o.mono ?_;rintro e i ⟨⟨k,y,f,rfl⟩,b⟩;have d:=hZ b;have g:(k==0)=false:=Qq.2 f;clear b f);go_ret;exact⟨by show Ending.returned (.bool (k !=0))=_;rw[bne,g];rfl,d.o⟩
theorem z1c(h:p:=by
 have C:=R.o (by rw[h];rfl);have j:=UD (Bn o=0) (by rw[B.o,Qs (by rw[h];simp[AN])]);rw[C]at r;clear C;rw[h];clear h;go_enter func42,ntmps42
 go_wp2_with(first
  |(go_at_call 82;have u:=d.o;refine(r.o _).mono ?_;rintro e w2 ⟨rfl,c⟩;have q:=UD (Chg w w2 []) (u.trans c);have y1:=c.keeps x;have y2:w.heap.size<w2.heap.size:=Q6 v c.size;clear c u)
  |(go_at_call 82;refine(l.o _).mono ?_;rintro e g ⟨rfl,a⟩;have d:=UD (Chg w g []) (ct cR a);obtain⟨v,H,x,I,J,K⟩:=Ac.cells4 ((Ac.new w _ _).kept a);clear a))
 go_ret;exact⟨by rw[j.o];rfl,q.o⟩):p:=h
theorem z1f(h:p:=by go_enter func42,ntmps42;go_wp2_with fail;go_ret;exact⟨by rw[j.o];rfl,(Chg.refl w []).alloc _⟩):p:=h
theorem jn(o:Bq)(sv:Vl)(ys:List Vl)(w:Wl)(D:T7 o)(O:As w sv 6 o.steps.length ys)(T:Az w o.steps ys):
  Cl prog 42 #[nA (BJ o sv).toArray] w fun e w'=>e= nR (nI nX (Bn o))/\Chg w w' []:=by
 obtain⟨sa,sc,rfl,_⟩:=O.form;have l:=UD (∀f,Cl prog 82 #[nG o.path] f fun e w'=>e= nR (.bool (AD o.path).isNone)/\Chg f w' []) fun f=>iv o.path f D.path;have r:=UD (∀f,Cl prog 82 #[nG o.frm] f fun e w'=>e= nR (.bool (AD o.frm).isNone)/\Chg f w' []) fun f=>iv o.frm f D.frm;have s:=UD (∀f,Chg w f []->Cl prog 15 #[nS sa o.steps.length sc] f (ZY (AS o.steps) f)) fun f Z=>Vq o.steps _ ys f (O.kept Z) (Az.kept Z T) D.steps D.len;have E:=Iu (k:=o.kind);obtain⟨n,Y⟩:=Ue o.steps.length;rw[<-Y]at s|-;unfold BJ;clear D O T Y;by_cases m:o.kind<1\/6<o.kind
 .have j:=UD (Bn o=170) (SN (by cases h:CP o.kind with|false=>rfl|true=>exact absurd m (E.1 h)));obtain⟨k,X⟩:=Ue o.kind;rw[<-X]at m|-;clear E X l r s;have n4:(k==4)=false:=Qq.2 Zj;have n5:(k==5)=false:=Qq.2 Zj;rcases m with m|m
  .have d1:decide (k<1)=true:=decide_eq_true m;exact z1f
  .have d1:decide (k<1)=false:=decide_eq_false Zj;have d6:decide (6<k)=true:=decide_eq_true m;exact z1f
 .have y:CP o.kind=true:=E.2 m;have Q:o.kind=1\/o.kind=2\/o.kind=3\/o.kind=4\/o.kind=5\/o.kind=6:=Zj;have ah:=hZ y;cases A:AD o.path with
  |none=>
   have N:=UD (Bn o=171) (LT y (.inl A));rw[A]at l;clear E m y A r s;rcases Q with h|h|h|h|h|h
   all_goals
    rw[h];clear h;go_enter func42,ntmps42;go_wp2_with(go_at_call 82;refine(l.o _).mono ?_;rintro e g ⟨rfl,a⟩;have d:=UD (Chg w g []) (ct cR a);clear a);go_ret;exact⟨by rw[N.o];rfl,d.o⟩
  |some ts=>
   have G:¬(AD o.path=nN\/(AO o.kind=true/\AD o.frm=nN))\/(AO o.kind=true/\AD o.frm=nN):=by
    by_cases h:AO o.kind=true/\AD o.frm=nN
    .exact .inr h
    .exact .inl (by rw[A];rintro(a|a);cases a;exact h a)
   rw[A]at l;clear E m A;rcases G with G|⟨p,P⟩
   .have U:=GH y G
    have V:AO o.kind=true->(AD o.frm).isNone=false:=fun p=>by
     cases hf:AD o.frm with
     |some _=>rfl
     |none=>exact absurd (.inr ⟨p,hf⟩) G
    have R:=hZ V;have B:=hZ U;clear y G U V;rcases Q with h|h|h|h|h|h
    rotate_left 3
    .exact z1c
    .exact z1c
    rotate_left 2
    .have j:=UD (Bn o=0) (by rw[B.o,Qs (by rw[h];simp[AN])]);rw[h];clear h;go_enter func42,ntmps42;go_wp2_with(go_at_call 82;refine(l.o _).mono ?_;rintro e g ⟨rfl,a⟩;have d:=UD (Chg w g []) (ct cR a);obtain⟨v,H,x,I,J,K⟩:=Ac.cells4 ((Ac.new w _ _).kept a);clear a);go_ret;exact⟨by rw[j.o];rfl,d.o⟩
    all_goals
     have p:AN o.kind=true:=by rw[h];rfl
     cases z:AS o.steps with
     |none=>
      have j:=UD (Bn o=174) (by rw[B.o,Qr ⟨p,by rw[z];rfl⟩]);rw[z]at s;rw[h];clear h z p;go_enter func42,ntmps42
      go_wp2_with(first
       |(go_at_call 82;refine(l.o _).mono ?_;rintro e g ⟨rfl,a⟩;have d:=UD (Chg w g []) (ct cR a);obtain⟨v,H,x,I,J,K⟩:=Ac.cells4 ((Ac.new w _ _).kept a);clear a)
       |(go_at_call 15;refine(s.o _ d.o).mono ?_;rintro e w2 ⟨rfl,c⟩;have q:=hZ (d.o.trans c);clear c)
       |(refine kM w2 Ya ?_;intro w3 _ S;have M:=hZ (q.o.trans S.o);clear S))
      go_ret;exact⟨by rw[j.o];rfl,M.o⟩
     |some t=>
      have j:=UD (Bn o=0) (by rw[B.o,Qs (by rw[z];simp)]);rw[z]at s;rw[h];clear h z p;go_enter func42,ntmps42
      go_wp2_with(first
       |(go_at_call 82;refine(l.o _).mono ?_;rintro e g ⟨rfl,a⟩;have d:=UD (Chg w g []) (ct cR a);obtain⟨v,H,x,I,J,K⟩:=Ac.cells4 ((Ac.new w _ _).kept a);clear a)
       |(go_at_call 15;refine(s.o _ d.o).mono ?_;rintro e w2 ⟨⟨F,cs,rfl,L,_,_⟩,c⟩;have q:=hZ (d.o.trans c);have aa:=UD ((prog.info? 29).map (·.size)=nM cs.length) (by rw[(E7 L).2];exact A9);have ab:=hZ (E7 L).1;have ad:=UD (zV.length=cs.length) (by rw[(E7 L).2];rfl);clear c L)
       |(refine Ae rfl _ _ _ rfl w2.heap.size cs ZN ZN 29 zV (BD _ _ zV _ _ rfl rfl) aa.o ad.o ab.o ?_;intro w3 ag ae W;have M:=UD (Chg w w3 []) (q.o.trans (Chg.step (b:=_) (by exact cg cR) W (fun i hi hl=>by simp at hi;omega)));clear ag ae W))
      go_ret;exact⟨by rw[j.o];rfl,M.o⟩
   .have N:=UD (Bn o=171) (LT y (.inr ⟨p,P⟩));rw[P]at r;have af:o.kind=4\/o.kind=5:=by unfold AO at p;simpa using p
    clear y Q p P s;rcases af with h|h
    all_goals
     rw[h];clear h;go_enter func42,ntmps42
     go_wp2_with(first
      |(go_at_call 82;have u:=d.o;refine(r.o _).mono ?_;rintro e w2 ⟨rfl,c⟩;have q:=UD (Chg w w2 []) (u.trans c);have y1:=c.keeps x;have y2:w.heap.size<w2.heap.size:=Q6 v c.size;clear c u)
      |(go_at_call 82;refine(l.o _).mono ?_;rintro e g ⟨rfl,a⟩;have d:=UD (Chg w g []) (ct cR a);obtain⟨v,H,x,I,J,K⟩:=Ac.cells4 ((Ac.new w _ _).kept a);clear a))
     go_ret;exact⟨by rw[N.o];rfl,q.o⟩
end
section
open Go Go.RowKit Ptr Tree
theorem Ba.lit(w:Wl)(cs:List Vl)(e:Ti)(sz n:Nat)(b:cs.length=n*sz)(a:n<=maxLen):Ba (w.alloc (nC cs.toArray e)) (nS (nM ⟨w.heap.size,0,nN⟩) n n) e sz n cs:=
 World.ownsRow_lit w cs.toArray n (Nat.zero_le _) a (by simpa using b)
theorem kt{cs:List Vl}(h:cs.length=6):∃a b c d e f,cs=[a,b,c,d,e,f]:=by
 exact z1h
end
section
open _root_.Go.Proofs.Tryz
open Go Go.Shelf Go.RowKit Go.Lib Tree
theorem lG(t:Tr)(F:Nat->Prop)(cs:List Vl)(d:BY)(w:Wl)(E:AL w F t cs)(C:(Aa t).keys.length<=4294967296):
  Cl prog 146 #[nA cs.toArray,nG d] w fun e w'=>e= nR (nI nX (eN (Aa t).keys d))/\Chg w w' []:=by
 obtain⟨H,I,x,G,xs,rfl,v,_⟩:=E.uni;obtain⟨ks,a⟩:=Ue ((Aa t).keys);rw[<-a]at v C|-;obtain⟨W,X,P,B⟩:=v.cell;injection P with M N s
 subst M;subst s;rw[Jy]
 have K:=UD (∀i k,ks[i]? =nM k->∃b o,x=nM ⟨b,o,nN⟩/\w.cell? ⟨b,o+i,nN⟩=nM (nG k)) fun i k c=>by
  obtain⟨b,o,e,_,g⟩:=B i (nG k) (by simp[Ad,c]);exact⟨b,o,e,g⟩
 clear E v B a N;generalize (Ab t).length=ln
 generalize (Aa t).sort=so
 generalize (Aa t).flag=fl
 generalize (Aa t).bits=bi
 generalize (Aa t).text=tx
 obtain⟨n,u⟩:=Ue ks.length;have A:=hZ u;rw[<-u]at C|-;clear u;go_enter func146,ntmps146;go_wp2_with fail;obtain⟨w0,l⟩:=Ue (w.alloc (nC #[nI nX so,.bool fl,nI .u64 bi,nG tx,nS H ln I,nS x n G] 29));have m:Hid (Chg w w0 []):=by rw[l];exact hZ ((Chg.refl w []).alloc _)
 have J:Hid (Ac w0 w.heap.size [nI nX so,.bool fl,nI .u64 bi,nG tx,nS H ln I,nS x n G] 29):=by rw[l];exact hZ (Ac.new w _ _)
 rw[<-l];clear l;obtain⟨Y,T,Z,y1,y2,y3,y4,y5⟩:=Ac.cells6 J.o;go_loopw [5] (fun y wr=>∃i:Nat,i<=n/\y= nI nX i/\w0=wr/\∀j k,j<i->ks[j]? =nM k->k≠d) (fun y _=>n-(intOf y).toNat)
 case atStart=>exact⟨0,Zj,rfl,rfl,fun j k h=>absurd h (Nat.not_lt_zero j)⟩
 case round=>
  obtain⟨i,U,rfl,rfl,D⟩:=hrel;have r:=hZ D;clear D;by_cases V:i<n
  .obtain⟨k,c⟩:∃k,ks[i]? =nM k:=⟨_,Q9 (by have:=A.o;omega)⟩;obtain⟨b,o,rfl,g⟩:=K.o i k c;have S:=m.o.keeps g;have z:=hZ c;clear c g;by_cases a:k=d
   .have O:(k.toList==d.toList)=true:=by rw[a];simp
    have p:=hZ a;clear a;go_wp2_with fail;go_ret;exact⟨by rw[eO (p.o▸z.o) r.o];rfl,m.o⟩
   .have s:¬k.toList=d.toList:=fun e=>a (by rw[Lib.toList_data,Lib.toList_data]at e;exact ByteArray.ext (Array.toList_inj.1 e));have O:(k.toList==d.toList)=false:=by simpa using s
    have p:=hZ a;clear a;go_wp2_with fail;go_roundw
    case rel=>
     refine⟨i+1,Zj,by go_num,trivial,fun j q Q f=> ?_⟩;by_cases R:j=i
     .subst R;have L:=z.o;rw[L]at f;injection f with f
      rw[<-f];exact p.o
     .exact r.o j q Zj f
    case measure=>simp[intOf];omega
  .obtain rfl:i=n:=by omega
   go_wp2_with fail;go_ret;exact⟨by rw[eL (fun j k Q c=>r.o j k (by have:=A.o;omega) c)];rfl,m.o⟩
theorem lC(w:Wl)(x:Nat)(c:x<256):(Go.convert 177 9 (nS (nM ⟨w.heap.size,0,nN⟩) 1 1)).run prog (w.alloc (nC #[nI .u8 x] 5))= .ok (nG ⟨#[UInt8.ofNat x]⟩) (w.alloc (nC #[nI .u8 x] 5)):=by
 have h:=AK.lit w [nI .u8 x] 5 1 rfl ZM;have a:=AK.convert (P:=prog) (xs:=[(x:Int)]) h _ _ underlying177 underlying5 underlying9
 have b:strOfNums [(x:Int)]=⟨#[UInt8.ofNat x]⟩:=by
  have:=jD [UInt8.ofNat x];simp only[List.map_cons,List.map_nil]at this;rw[show((UInt8.ofNat x).toNat:Int)=(x:Int) by simp;omega]at this;exact this
 rw[b]at a;exact a
theorem lH(n:Nat)(w:Wl)(k:n<100000):
  Cl prog 90 #[nI nX n] w fun e w'=>e= nR (nG ⟨(Go.Lib.decDigits n).toArray⟩)/\Chg w w' []:=by
 have r:(decDigits n).length<=11:=by have:=fX n k;simpa[ByteArray.size]using this
 go_enter func90,ntmps90;go_wp2_with fail;go_loopw [0,3] (fun f l wr=>∃(m:Nat) (s:List UInt8),m<=n/\f= nI nX m/\l= nG ⟨s.toArray⟩/\decDigits n=decDigits m++s/\Chg w wr []) (fun f _ _=>(intOf f).toNat)
 case atStart=>exact⟨n,[],Zj,rfl,rfl,Zh,Chg.refl _ _⟩
 case round=>
  obtain⟨m,s,p,rfl,rfl,d,j⟩:=hrel
  have q:s.length<=11:=by
   have:=congrArg List.length d;rw[Qk]at this;omega
  have h:=hZ d;have g:=hZ j;clear d j;by_cases o:9<m
  .have b:=lC wr (48+m % 10) Zj;rw[show((48+m % 10:Nat):Int)=48+(m:Int) % 10 by omega]at b;obtain⟨i,a⟩:=Ue (UInt8.ofNat (48+m % 10));have c:=hZ a;rw[<-a]at b;clear a;go_wp2_with fail;go_roundw
   case rel=>
    refine⟨m/10,i::s,Zj,by go_num, ?_, ?_,g.o.alloc _⟩
    .congr 1
    .rw[h.o,decDigits.eq_1 m,dif_neg Zj,List.append_assoc,c.o];rfl
   case measure=>simp[intOf];omega
  .have b:=lC wr (48+m) Zj;rw[show((48+m:Nat):Int)=48+(m:Int) by omega]at b;obtain⟨i,a⟩:=Ue (UInt8.ofNat (48+m));have c:=hZ a;rw[<-a]at b;clear a;go_wp2_with fail;go_ret;refine⟨?_,g.o.alloc _⟩;rw[h.o,decDigits.eq_1 m,dif_pos Zj,<-c.o];rfl
end
section
open Go Go.Shelf Go.RowKit Go.Lib Tree Ptr
theorem AL.kid{w:Wl}{F:Nat->Prop}{t:Tr}{l:Option Addr}{xs:List Vl}(r:LP w F l xs)(x:Aq w F (Ab t) xs){i:Nat}{u:Tr}(s:(Ab t)[i]? =nM u):
  ∃b o f g a d,l=nM ⟨b,o,nN⟩/\AL w F u (vC (Aa u).sort (Aa u).flag (Aa u).bits (Aa u).text (nS f (Ab u).length g) (nS a (Aa u).keys.length d))/\
   ∀j v,(vC (Aa u).sort (Aa u).flag (Aa u).bits (Aa u).text (nS f (Ab u).length g) (nS a (Aa u).keys.length d))[j]? =nM v->w.cell? ⟨b,o+i*6+j,nN⟩=nM v:=by
 obtain⟨c,h,k⟩:=x.get i u s;have n:=h;obtain⟨f,g,a,d,ys,rfl,_⟩:=h.uni;rcases r with m|⟨b,o,e,_,p⟩
 .have:=k 0 _ rfl;rw[m]at this;cases this
 .exact⟨b,o,f,g,a,d,e,n,fun j v q=>by rw[show o+i*6+j=o+(6*i+j) by omega];exact p _ _ (k j v q)⟩
end
section
open Go Go.RowKit Tree Ptr
variable{ks:List BY}{us:List Tr}{cs:List Vl}{Q cap:Nat}{F:Nat->Prop}{f sk:Vl}{g w w' w2:Wl}
def qq(F:Nat->Prop)(t:Tr)(w:Wl)(e:Ending)(w':Wl):Prop:=∃(a:Nat->Prop) (cs:List Vl),e= nR (nA cs.toArray)/\AL w' a t cs/\(∀b,a b->(F b\/w.heap.size<=b)/\b<w'.heap.size)/\Chg w w' []
structure lz(w3:Wl)(F:Nat->Prop)(Q:Nat)(so:Int)(ks:List BY)(us:List Tr)(si sk:Vl)(w:Wl):Prop where
 blk:Ac w Q (vC so false 0 Dz si sk) 29
 keys:AK w sk 9 (Ad ks)
 ex:∃xs E,Ba w si 29 6 us.length xs/\Aq w E us xs/\(∀b,E b->(F b\/Q<b)/\b<w.heap.size)/\(∀g,sk.ownBlock=nM g->¬E g)/\∀g,si.ownBlock=nM g->¬E g
 own1:∀g,sk.ownBlock=nM g->Q<g
 own2:∀g,si.ownBlock=nM g->Q<g
 dis:∀g,sk.ownBlock=nM g->si.ownBlock=nM g->False
 chg:Chg w3 w []
theorem lz.start{c:Wl}{a:Int}(d:Ac w Q (vC a false 0 Dz (nS nN 0 0) (nS nN 0 0)) 29)(f:Chg c w []):lz c F Q a [] [] (nS nN 0 0) (nS nN 0 0) w:=
 ⟨d,AK.nil _ _,⟨[],fun _=>False,Ba.nil _ _ _,by simp[Aq],fun b e=>e.elim,fun _ h=>(by cases h),fun _ h=>(by cases h)⟩,fun _ h=>(by cases h),fun _ h=>(by cases h),fun _ h=>(by cases h),f⟩
theorem lz.kept{f:Int}{e:Vl}(h:lz g F Q f ks us e sk w)(a:Chg w w' []):lz g F Q f ks us e sk w':=by
 obtain⟨xs,E,i,j,d,k,l⟩:=h.ex;exact⟨h.blk.kept a,h.keys.kept a,⟨xs,E,i.kept a,Aq.kept (a.keepsF (fun b c=>(d b c).2)) (fun _ h=>h) _ _ j,fun b c=>⟨(d b c).1,Q6 (d b c).2 a.size⟩,k,l⟩,h.own1,h.own2,h.dis,h.chg.trans a⟩
theorem z1e{p:Prop}(h:p:=by simp only;omega):p:=h
theorem pN{B n:Wl}{E1:Nat->Prop}{g:Nat}{L:Int}{u:Tr}{xs:List Vl}{E:Nat->Prop}(q:∀b,F b->b<Q)(U:B.heap.size<=Q)(h:lz B F Q L ks us f sk w)(G:Ba w f 29 6 us.length xs)(P:Aq w E us xs)(s:∀b,E b->(F b\/Q<b)/\b<w.heap.size)(N:∀g,sk.ownBlock=nM g->¬E g)(D:∀g,f.ownBlock=nM g->¬E g)(p:Chg w n [])(R:AL n E1 u cs)(j:∀b,E1 b->(F b\/w.heap.size<=b)/\b<n.heap.size)(K:Ba w2 (nS (nM ⟨g,0,nN⟩) (us.length+1) cap) 29 6 (us.length+1) (xs++cs))(m:Chg n w2 f.ownBlock.toList)(A:f.ownBlock=nM g\/n.heap.size<=g):
  lz B F Q L ks (us++[u]) (nS (nM ⟨g,0,nN⟩) (us.length+1) cap) sk (w2.setCell ⟨Q,4,nN⟩ (nS (nM ⟨g,0,nN⟩) (us.length+1) cap)):=by
 obtain⟨C,z⟩:=Ue (w2.setCell ⟨Q,4,nN⟩ (nS (nM ⟨g,0,nN⟩) (us.length+1) cap));have X:=h.blk.lt;have z1:=p.size;have z2:=m.size;have Z:g<w2.heap.size:=K.lt rfl;have l:∀y,y∈f.ownBlock.toList->f.ownBlock=nM y:=fun y c=>by simpa using c
 have H:g<w.heap.size->f.ownBlock=nM g:=fun Y=>by
  rcases A with k|k
  .exact k
  .omega
 have W:Q<g:=by
  rcases A with k|k
  .exact h.own2 g k
  .omega
 have O:Q∉f.ownBlock.toList:=fun d=>by have:=h.own2 Q (l Q d);omega
 have i:Chg w2 C [Q]:=by rw[z];exact(Chg.refl _ _).setCell _ _ Zh
 have z9:=i.size;have J:∀y,sk.ownBlock=nM y->y≠Q/\f.ownBlock≠nM y:=fun y c=>⟨by have:=h.own1 y c;omega,fun e=>h.dis y c e⟩;rw[<-z];refine⟨by rw[z];exact(((h.blk.kept p).kept m O).set 4 _).eq rfl,(((h.keys.kept p).kept m (fun y c d=>(J y c).2 (l y d))).kept i (fun y c d=>(J y c).1 (by simpa using d))),⟨xs++cs,fun b=>E b\/E1 b,by rw[Qk];exact K.kept i (fun y c d=>by have e:g=y:=Q5 c;simp at d;omega), ?_,fun b a=> ?_,fun y c a=> ?_,fun y c a=> ?_⟩,h.own1,fun y c=>by have e:g=y:=Q5 c;omega,fun y c e=> ?_, ?_⟩
 .have S:BZ E w C:=fun b o a=>by
   have I:=(s b a).2;have x:b≠Q:=by have:=(s b a).1;rcases this with h|h;have:=q b h;omega;omega
   have v:b∉f.ownBlock.toList:=fun d=>D b (l b d) a;rw[i.cell z1e (by simp;exact x),m.cell z1e v,p.cell I Zh]
  have T:BZ E1 n C:=fun b o a=>by
   have I:=(j b a).2;have x:b≠Q:=by have:=(j b a).1;rcases this with h|h;have:=q b h;omega;omega
   have v:b∉f.ownBlock.toList:=fun d=>by
    have t:=h.own2 b (l b d);have r:=G.lt (l b d);rcases(j b a).1 with h|h
    .have:=q b h;omega
    .omega
   rw[i.cell z1e (by simp;exact x),m.cell z1e v]
  exact(Aq.kept S (fun _ h=> .inl h) _ _ P).append (by simp only[Aq];exact⟨cs,[],Zh,AL.kept T (fun _ h=> .inr h) _ _ R,rfl⟩)
 .rcases a with a|a
  .have:=s b a;exact⟨this.1,Zj⟩
  .have:=j b a;refine⟨?_,Zj⟩;rcases this.1 with h|h
   .exact .inl h
   .exact .inr Zj
 .rcases a with a|a
  .exact N y c a
  .have t:=h.own1 y c;have r:y<w.heap.size:=h.keys.lt c;rcases(j y a).1 with h|h
   .have:=q y h;omega
   .omega
 .have e:g=y:=Q5 c;subst e;rcases a with a|a
  .exact D g (H (s g a).2) a
  .have t:=j g a;rcases A with k|k
   .have r:=G.lt k;have V:=h.own2 g k;rcases t.1 with h|h
    .have:=q g h;omega
    .omega
   .omega
 .have M:g=y:=Q5 e;subst M;have r:g<w.heap.size:=h.keys.lt c;exact h.dis g c (H r)
 .exact((h.chg.trans p).fresh m (fun y c=>by have:=h.own2 y (l y c);omega)).fresh i (fun y c=>by simp at c;omega)
theorem qo{r q:Wl}{g:Nat}{B:Int}{s:BY}{p:Vl}(P:r.heap.size<=Q)(I:∀b,F b->b<Q)(h:lz r F Q B ks us p sk w)(f:Chg w q [])(z:AK w2 (nS (nM ⟨g,0,nN⟩) (ks.length+1) cap) 9 (Ad ks++[nG s]))(l:Chg q w2 sk.ownBlock.toList)(A:sk.ownBlock=nM g\/q.heap.size<=g):
  lz r F Q B (ks++[s]) us p (nS (nM ⟨g,0,nN⟩) (ks.length+1) cap) (w2.setCell ⟨Q,5,nN⟩ (nS (nM ⟨g,0,nN⟩) (ks.length+1) cap)):=by
 obtain⟨C,n⟩:=Ue (w2.setCell ⟨Q,5,nN⟩ (nS (nM ⟨g,0,nN⟩) (ks.length+1) cap));obtain⟨xs,E,u,K,j,t,H⟩:=h.ex;have S:=h.blk.lt;have V:=f.size;have W:=l.size;have U:g<w2.heap.size:=z.lt rfl;have m:∀y,y∈sk.ownBlock.toList->sk.ownBlock=nM y:=fun y a=>by simpa using a
 have v:g<w.heap.size->sk.ownBlock=nM g:=fun T=>by
  rcases A with k|k
  .exact k
  .omega
 have R:Q<g:=by
  rcases A with k|k
  .exact h.own1 g k
  .omega
 have J:Q∉sk.ownBlock.toList:=fun d=>by have:=h.own1 Q (m Q d);omega
 have i:Chg w2 C [Q]:=by rw[n];exact(Chg.refl _ _).setCell _ _ Zh
 have X:=i.size;have x:∀y,p.ownBlock=nM y->y≠Q/\sk.ownBlock≠nM y:=fun y a=>⟨by have:=h.own2 y a;omega,fun e=>h.dis y e a⟩;rw[<-n];refine⟨by rw[n];exact(((h.blk.kept f).kept l J).set 5 _).eq rfl,(z.norm rfl (by simp[Ad])).kept i (fun y a d=>by have e:g=y:=Q5 a;simp at d;omega),⟨xs,E,(((u.kept f).kept l (fun y a d=>(x y a).2 (m y d))).kept i (fun y a d=>(x y a).1 (by simpa using d))), ?_,fun b c=>⟨(j b c).1,by have:=(j b c).2;omega⟩,fun y a c=> ?_,H⟩,fun y a=>by have e:g=y:=Q5 a;omega,h.own2,fun y a e=> ?_, ?_⟩
 .have O:BZ E w C:=fun b o c=>by
   have L:=(j b c).2;have N:b≠Q:=by have:=(j b c).1;rcases this with h|h;have:=I b h;omega;omega
   have M:b∉sk.ownBlock.toList:=fun d=>t b (m b d) c;rw[i.cell z1e (by simp;exact N),l.cell z1e M,f.cell L Zh]
  exact Aq.kept O (fun _ h=>h) _ _ K
 .have e:g=y:=Q5 a;subst e;exact t g (v (j g c).2) c
 .have D:g=y:=Q5 a;subst D;have G:g<w.heap.size:=u.lt e;exact h.dis g (v G) e
 .exact((h.chg.trans f).fresh l (fun y a=>by have:=h.own1 y (m y a);omega)).fresh i (fun y a=>by simp at a;omega)
theorem lz.list{j:Wl}{m:Vl}(u:∀b,F b->b<j.heap.size)(r:j.heap.size<=Q)(h:lz j F Q 5 [] us m sk w)(f:Chg w w' []):∃k,AL w' k (.list us) (vC 5 false 0 Dz m sk)/\∀b,k b->(F b\/Q<b)/\b<w'.heap.size:=by
 obtain⟨xs,E,e,l,i,s,t⟩:=h.ex;obtain⟨a,c,rfl,_⟩:=e.form;obtain⟨n,o,rfl,_⟩:=h.keys.form;have q:=f.keepsF (F:=E) (fun b d=>(i b d).2) Zh;refine⟨fun b=>E b\/(Vl.slice a us.length c).ownBlock=nM b, ?_,fun b d=> ?_⟩
 .simp only[AL];exact⟨a,c,n,o,xs,rfl,(e.kept f).rowN (by rw[l.length];omega) (fun g p=> .inr p),Aq.kept q (fun _ h=> .inl h) _ _ l,e.capLe.2⟩
 .rcases d with d|d
  .exact⟨(i b d).1,Q6 (i b d).2 f.size⟩
  .exact⟨.inr (h.own2 b d),Q6 (e.lt d) f.size⟩
theorem lz.obj{l:Wl}{r:Vl}(z:∀b,F b->b<l.heap.size)(v:l.heap.size<=Q)(h:lz l F Q 6 ks us r sk w)(u:ks.length=us.length)(e:Chg w w' []):∃m,AL w' m (.obj ks us) (vC 6 false 0 Dz r sk)/\∀b,m b->(F b\/Q<b)/\b<w'.heap.size:=by
 obtain⟨xs,E,f,p,i,x,y⟩:=h.ex;obtain⟨a,c,rfl,_⟩:=f.form;obtain⟨n,o,rfl,_⟩:=h.keys.form;have s:=e.keepsF (F:=E) (fun b d=>(i b d).2) Zh;have t:(Ad ks).length=ks.length:=by simp[Ad]
 have k:=h.keys;have q:=h.own1;rw[t]at k q|-;refine⟨fun b=>E b\/(Vl.slice a us.length c).ownBlock=nM b\/(Vl.slice n ks.length o).ownBlock=nM b, ?_,fun b d=> ?_⟩
 .simp only[AL];exact⟨a,c,n,o,xs,rfl,u,(k.kept e).rowAt (fun g j=> .inr (.inr j)),(f.kept e).rowN (by rw[p.length];omega) (fun g j=> .inr (.inl j)),Aq.kept s (fun _ h=> .inl h) _ _ p⟩
 .rcases d with d|d|d
  .exact⟨(i b d).1,Q6 (i b d).2 e.size⟩
  .exact⟨.inr (h.own2 b d),Q6 (f.lt d) e.size⟩
  .exact⟨.inr (q b d),Q6 (k.lt d) e.size⟩
theorem lz.form{k:Wl}{j:Int}(h:lz k F Q j ks us f sk w):∃a c b d,f= nS a us.length c/\sk= nS b ks.length d:=by
 obtain⟨xs,E,i,_⟩:=h.ex;obtain⟨a,c,e,_⟩:=i.form;obtain⟨b,d,g,_⟩:=h.keys.form;exact⟨a,c,b,d,e,by rw[g];simp[Ad]⟩
theorem qI{w0 wr:Wl}{d:Nat->Prop}{R:Nat}{t:Tr}(i:∀b,F b->b<w.heap.size)(f:Chg w w0 [])(l:Chg w0 wr [])(j:w.heap.size<=R/\R<w0.heap.size)(o:w0.heap.size<=Q)(e:Chg wr g [R])(m:AL wr d t cs)(c:∀b,d b->(F b\/Q<b)/\b<wr.heap.size):qq F t w (nR (nA cs.toArray)) g:=by
 have p:=f.size;refine⟨d,cs,rfl,AL.kept (e.keepsF (fun b a=>(c b a).2) (fun b a k=> ?_)) (fun _ h=>h) _ _ m,fun b a=>⟨?_,Q6 (c b a).2 e.size⟩,(f.trans l).fresh e (fun y n=>by obtain rfl:y=R:=List.mem_singleton.1 n;exact j.1)⟩
 .obtain rfl:b=R:=List.mem_singleton.1 a;rcases(c b k).1 with h|h
  .have:=i b h;omega
  .omega
 .rcases(c b a).1 with h|h
  .exact .inl h
  .exact .inr Zj
end
section
open _root_.Go.Proofs.Tryz
open Go Go.Shelf Go.RowKit Go.Lib Tree Ptr
variable{s:BY}{i n:Nat}{t:Tr}
def qy(s:BY)(i:Nat):Nat:=KK (s.data.toList.take i)
theorem sI(h:i<s.size):qy s (i+1)=10*qy s i+(s[i].toNat-48):=by
 unfold qy;have a:i<s.data.toList.length:=by rw[Array.length_toList];exact h
 rw[List.take_add_one,Q9 a];simp only[Option.toList_some];rw[Lm];rfl
theorem tt(s:BY):qy s s.size=KK s.data.toList:=by
 unfold qy;rw[Qn (show s.data.toList.length<=s.size from Nat.le_of_eq Array.length_toList)]
theorem sH:qy s i<=KK s.data.toList:=by
 unfold qy;rw[show KK s.data.toList=KK (s.data.toList.take i++s.data.toList.drop i) by rw[List.take_append_drop]];unfold KK;rw[List.foldl_append];exact Wy _ _
def sB(s:BY)(i:Nat):Prop:=∀(j:Nat) (h:j<s.size),j<i->48<=s[j].toNat/\s[j].toNat<=57
theorem tJ(h:sB s s.size):s.data.toList.all Fi=true:=by
 rw[List.all_eq_true];intro c d;obtain⟨j,a,rfl⟩:=List.getElem_of_mem d;have b:j<s.size:=by rw[Array.length_toList]at a;exact a
 have:=h j b b;unfold Fi;exact decide_eq_true this
theorem qX(h:i<s.size)(c:¬(48<=s[i].toNat/\s[i].toNat<=57)):D5 s.data.toList=nN:=by
 unfold D5;rw[Qs];rintro⟨_,_,a⟩;rw[List.all_eq_true]at a;have b:i<s.data.toList.length:=by rw[Array.length_toList];exact h
 have:=a s.data.toList[i] (List.getElem_mem b);unfold Fi at this;exact c (of_decide_eq_true this)
theorem ry(h:1<s.size)(a:s[0].toNat=48):D5 s.data.toList=nN:=by
 unfold D5;rw[Qs];rintro⟨_,b,_⟩;have d:s.data.toList.length=s.size:=Array.length_toList;refine b Zj ?_;have c:0<s.data.toList.length:=Zj;rw[List.head?_eq_getElem?,Q9 c];exact congrArg nM (UInt8.toNat_inj.1 (by exact a))
theorem Ro(h:s.size≠0)(a:1<s.size->∀g:0<s.size,s[0].toNat≠48)(c:sB s s.size):D5 s.data.toList=nM (KK s.data.toList):=by
 have d:s.data.toList.length=s.size:=Array.length_toList;unfold D5;rw[Qr];refine⟨fun e=>h (by rw[<-d,e];rfl),fun f e=> ?_,tJ c⟩;have b:0<s.data.toList.length:=Zj;rw[List.head?_eq_getElem?,Q9 b]at e;injection e with e
 exact a Zj Zj (congrArg UInt8.toNat e)
theorem qm(h:D5 s.data.toList=nN):pJ s n= -1:=by unfold pJ bL;rw[h]
theorem rz{k:Nat}(h:D5 s.data.toList=nM k):pJ s n=if k<n then(k:Int)else-1:=by
 unfold pJ bL;rw[h];simp only;by_cases a:k<n
 .rw[Qr a,Qr a]
 .rw[Qs a,Qs a]
theorem sY(a:n<=qy s i):pJ s n= -1:=by
 cases h:D5 s.data.toList with
 |none=>exact qm h
 |some k=>
  rw[rz h,Qs]
  have:k=KK s.data.toList:=by
   unfold D5 at h;split at h
   .injection h with h;exact h.symm
   .cases h
  have:=sH (s:=s) (i:=i);omega
theorem z1d{p:Prop}(h:p:=by go_wp2_with fail;go_ret;exact⟨by rw[c.o];rfl,rfl⟩):p:=h
theorem qP(s:BY)(n:Nat)(w:Wl)(W:n<=4294967296)(Y:s.size<=16777216):
  Cl prog 88 #[nG s,nI nX n] w fun e w'=>e= nR (nI nX (pJ s n))/\w=w':=by
 by_cases k:s.size=0
 .have c:=UD (pJ s n= -1) (qm (by
   have:s.data.toList=[]:=List.eq_nil_of_length_eq_zero (by rw[Array.length_toList];exact k)
   rw[this];rfl))
  have N:((s.size:Int)==0)=true:=by rw[beq_iff_eq];omega
  clear k;go_enter func88,ntmps88;exact z1d
 .have N:((s.size:Int)==0)=false:=Qq.2 Zj;have X:0<s.size:=Zj;by_cases f:1<s.size/\s[0].toNat=48
  .have c:=UD (pJ s n= -1) (qm (ry f.1 f.2));have F:(1:Int)<(s.size:Int):=Zj;have y:decide ((1:Int)<(s.size:Int))=true:=decide_eq_true F;have G:((s[0].toNat:Int)==48)=true:=by rw[f.2];rfl
   have P:(s[0].toNat:Int)=48:=Zj;clear k f;go_enter func88,ntmps88;exact z1d
  .have E:=UD (1<s.size->∀g:0<s.size,s[0].toNat≠48) fun a g b=>f ⟨a,b⟩;have C:=UD (s.size≠0) k
   have I:(decide ((1:Int)<(s.size:Int))=false)\/(decide ((1:Int)<(s.size:Int))=true/\((s[0].toNat:Int)==48)=false):=by
    by_cases Q:1<s.size
    .exact .inr ⟨decide_eq_true Zj,Qq.2 Zj⟩
    .exact .inl (decide_eq_false Zj)
   clear k f;rcases I with y|⟨y,G⟩
   all_goals
    go_enter func88,ntmps88;go_wp2_with fail;go_loopw [5,6] (fun O t wr=>∃i:Nat,i<=s.size/\t= nI nX i/\O= nI nX (qy s i)/\qy s i<=9223372036854775807/\w=wr/\sB s i) (fun _ t _=>s.size-(intOf t).toNat)
    case atStart=>exact⟨0,Zj,rfl,rfl,by simp[qy,KK],rfl,fun j _ h=>absurd h (Nat.not_lt_zero j)⟩
    case round=>
     obtain⟨i,hi,rfl,rfl,M,rfl,l⟩:=hrel;have u:=hZ l;clear l;by_cases q:i<s.size
     .have V:(i:Int)<(s.size:Int):=by omega
      have p:=hZ (sI q);obtain⟨x,r⟩:=Ue (qy s i);rw[<-r]at M|-;have o:=hZ r;clear r;by_cases K:s[i].toNat<48
      .have c:=UD (pJ s n= -1) (qm (qX q Zj));have z:decide ((s[i].toNat:Int)<48)=true:=decide_eq_true Zj;exact z1d
      .by_cases L:57<s[i].toNat
       .have c:=UD (pJ s n= -1) (qm (qX q Zj));have z:decide ((s[i].toNat:Int)<48)=false:=decide_eq_false Zj;have H:decide ((57:Int)<(s[i].toNat:Int))=true:=decide_eq_true Zj;exact z1d
       .have z:decide ((s[i].toNat:Int)<48)=false:=decide_eq_false Zj;have H:decide ((57:Int)<(s[i].toNat:Int))=false:=decide_eq_false Zj
        have D:=UD (sB s (i+1)) fun j J U=>by
         by_cases e:j=i
         .subst e;omega
         .exact u.o j J Zj
        obtain⟨d,l⟩:∃d:Nat,s[i].toNat=d+48:=⟨s[i].toNat-48,Zj⟩;have S:d<=9:=Zj;have m:=hZ l;have T:(s[i].toNat:Int)=(d:Int)+48:=Zj;clear K L l;by_cases R:(9223372036854775807-d)/10<x
        .have c:=UD (pJ s n= -1) (sY (i:=i+1) (by rw[p.o,<-o.o,m.o];omega));exact z1d
        .go_wp2_with fail;go_roundw
         case rel=>exact⟨i+1,Zj,by go_num,by rw[p.o,<-o.o,m.o];go_num,by rw[p.o,<-o.o,m.o];omega,trivial,D.o⟩
         case measure=>simp[intOf];omega
     .obtain rfl:i=s.size:=by omega
      have B:pJ s n=if qy s s.size<n then(qy s s.size:Int)else-1:=by rw[tt];exact rz (Ro C.o E.o u.o)
      have v:=hZ B;clear B;by_cases A:qy s s.size<n
      .have c:=UD (pJ s n=qy s s.size) (by rw[v.o,Qr A]);exact z1d
      .have c:=UD (pJ s n= -1) (by rw[v.o,Qs A]);exact z1d
theorem tf(l:List Tr)(s:BY):tG (.list l) s=pJ s l.length:=rfl
theorem tN(ks:List BY)(l:List Tr)(s:BY):tG (.obj ks l) s=eN ks s:=by
 have e:D6 (.obj ks l) s=if C4 ks s=true then nM (A5 ks s)else nN:=rfl;unfold tG eN;rw[e];by_cases h:C4 ks s=true
 .rw[Qr h,Qr h]
 .rw[Qs h,Qs h]
theorem sh(t:Tr):(((Aa t).sort:Int)=5/\∃l,t= .list l)\/(((Aa t).sort:Int)≠5/\∀l,t≠ .list l):=by
 cases t<;>simp[Aa]
theorem sj(t:Tr):(((Aa t).sort:Int)=6/\∃ks l,t= .obj ks l)\/(((Aa t).sort:Int)≠6/\∀ks l,t≠ .obj ks l):=by
 cases t<;>simp[Aa]
theorem rj{w:Wl}{F:Nat->Prop}{cs:List Vl}(h:AL w F t cs):(Aa t).keys.length<=(Ab t).length:=by
 cases t with
 |obj ks l=>simp only[AL]at h;obtain⟨_,_,_,_,_,_,h,_⟩:=h;exact Nat.le_of_eq h
 |_=>exact Nat.zero_le _
theorem sF(a:((Aa t).sort:Int)≠5)(b:((Aa t).sort:Int)≠6):tG t s= -1:=by
 cases t with
 |list l=>exact absurd rfl a
 |obj ks l=>exact absurd rfl b
 |_=>rfl
theorem t6(t:Tr)(F:Nat->Prop)(cs:List Vl)(s:BY)(w:Wl)(k:AL w F t cs)(o:∀b,F b->b<w.heap.size)(d:(Ab t).length<=65536)(y:s.size<=16777216):
  Cl prog 114 #[nA cs.toArray,nG s] w fun e w'=>e= nR (nI nX (tG t s))/\Chg w w' []:=by
 have v:=rj k;have c:=UD (∀a,Chg w a []->Cl prog 146 #[nA cs.toArray,nG s] a fun e w'=>e= nR (nI nX (eN (Aa t).keys s))/\Chg a w' []) fun a z=>lG t F cs s a (AL.kept (z.keepsF o) (fun _ h=>h) _ _ k) Zj;obtain⟨C,D,A,B,xs,rfl,_⟩:=k.uni;rw[Jy]at c|-;clear v k o;rcases sh t with⟨f,l,rfl⟩|⟨f,q⟩
 .have m:=UD (∀a,Cl prog 88 #[nG s,nI nX l.length] a fun e w'=>e= nR (nI nX (pJ s l.length))/\a=w') fun a=>qP s l.length a (by simp only[Ab]at d;omega) y;simp only[Aa,Ab]at d|-;rw[tf];obtain⟨n,g⟩:=Ue l.length;rw[<-g]at d m|-;clear f g c;go_enter func114,ntmps114;go_wp2_with(go_at_call 88;refine(m.o _).mono ?_;rintro e E ⟨rfl,i⟩;subst i);go_ret;exact⟨rfl,(Chg.refl w []).alloc _⟩
 .rcases sj t with⟨j,ks,l,rfl⟩|⟨j,x⟩
  .simp only[Aa,Ab]at d c|-;rw[tN];obtain⟨n,g⟩:=Ue l.length;obtain⟨r,p⟩:=Ue ks.length;rw[<-g,<-p]at c|-;clear f q j d g p;have G:=Ac.cells6 (Ac.new w [nI nX 6,.bool false,nI .u64 0,nG ⟨#[]⟩,nS C n D,nS A r B] 29);go_enter func114,ntmps114
   go_wp2_with(first
    |(refine uN (Ac.new w _ _) ?_)
    |(go_at_call 146;refine(c.o _ ((Chg.refl w []).alloc _)).mono ?_;rintro e E ⟨rfl,i⟩;have u:=hZ i;clear i))
   go_ret;exact⟨rfl,((Chg.refl w []).alloc _).trans u.o⟩
  .rw[sF f j];clear q x c d;generalize ((Aa t).sort:Int)=so at*
   generalize (Aa t).flag=fl
   generalize ((Aa t).bits:Int)=bi
   generalize (Aa t).text=tx
   generalize (Ab t).length=n
   generalize (Aa t).keys.length=r
   have H:(so==5)=false:=Qq.2 f;have I:(so==6)=false:=Qq.2 j;go_enter func114,ntmps114;go_wp2_with fail;go_ret;exact⟨rfl,(Chg.refl w []).alloc _⟩
end
end Go.Proofs.YtpdnhfkacgdocaaGreatDoor

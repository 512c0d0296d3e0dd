/- Part 2 of the proof of patchWhole_card. -/
import Derived.Test.YtkfnkppdhcaeoaaGreatDoorM39
import Derived.Deep.LoopGhost
import Derived.Test.YtkfnkppdhcaeoaaGreatDoorW01
set_option maxRecDepth 100000
set_option maxHeartbeats 32000000
set_option linter.unusedSimpArgs false
set_option linter.unusedVariables false
set_option linter.unnecessarySimpa false
namespace Go.Proofs.YtkfnkppdhcaeoaaGreatDoor
open Go renaming Calls->Cl,TypeId->Ti,Value->Vl,World->Wl
section
open _root_.Go.Proofs.Tryz
open Go Go.RowKit Tree
def SJ(ks:List BY)(a:BY)(w:Wl)(e:Ending)(w':Wl):Prop:=
 ∃(i:Nat) (ok:Bool),e= .returned (.tuple #[.int .i64 i,.bool ok])/\Chg w w' []/\(ok=true->ks[i]? =some a)/\(ok=false->a∉ks)
theorem Za(F:Nat->Prop)(sk:Vl)(ks:List BY)(a:BY)(w:Wl)(h:Ax w F sk (Ad ks))(g:∀k,F k->k<w.heap.size)(j:Cy ks)(l:Utf.Al a=true)(m:a.size<=2147483648):
  Cl prog 182 #[sk,.string a,.func (.func 157) #[] #[]] w (SJ ks a w):=by
 refine(J7 F sk ks a w h g j l m).mono ?_;rintro e w' ⟨i,ok,b,c,d,f,_⟩;exact⟨i,ok,b,c,d,f⟩
def cW(F:Nat->Prop)(l:List Tr)(i:Int)(w:Wl)(e:Ending)(w':Wl):Prop:=
 ∃v ok,e= .returned (.tuple #[.agg #[v],.bool ok])/\Chg w w' []/\((ok=true/\0<=i/\∃t,l[i.toNat]? =some t/\Af w' F t v)\/(ok=false/\v= .nilIface/\(i<0\/l.length<=i)))
theorem cZ(F:Nat->Prop)(t:Tr)(v:Vl)(i:Int)(w:Wl)(C:Af w F t v)(H:∀k,F k->k<w.heap.size)(U:(Ab t).length<=2147483648):
  Cl prog 150 #[.agg #[v],.int .i64 i] w (cW F (Ab t) i w):=by
 have M:=hZ C;have s:=hZ H;obtain⟨E,x,rfl⟩:=C.iface;have z:=(((Chg.refl w []).alloc (.cells #[.iface E x] 64)).alloc (.cells #[.nilIface] 64));have B:=hZ (ID F t (.iface E x) _ (Af.kept (z.keepsF s.o) (fun _ h=>h) _ _ M.o) (fun k j=>Q6 (s.o k j) z.size));have A:=hZ (CH w (.cells #[.iface E x] 64) [.nilIface] 64);have r:=hZ z;clear C H z;by_cases P:i<0
 .go_enter func150,ntmps150
  go_wp2_with(first|(go_at_call 66;(with_reducible refine B.o.mono ?_);rintro e L ⟨K,vs,rfl,f,hi,d⟩;obtain⟨a,c,rfl,g⟩:=f.cell;have l:=hZ (A.o.kept d);obtain⟨q,p,m⟩:=Ac.cells1 l.o;clear f hi g))
  refine bodyPost_ret (v:= .tuple #[.agg #[.nilIface],.bool false]) (by simp[results,results150,go_sem,q,p,m]) rfl ⟨_,_,rfl, ?_,.inr ⟨rfl,rfl,.inl P⟩⟩;have G:=r.o.trans d
  (repeat(first|exact G|with_reducible refine c1 ?_ _|with_reducible refine c2 ?_|with_reducible refine c3 ?_ _|with_reducible refine c4 ?_ _ _ (by simp)|with_reducible refine c4 ?_ _ _ (by simp;omega)))
 .obtain⟨n,rfl⟩:∃n:Nat,i=n:=⟨i.toNat,by omega⟩
  by_cases I:n<(Ab t).length
  .have y:=hZ I
   go_enter func150,ntmps150
   go_wp2_with(first|(go_at_call 66;(with_reducible refine B.o.mono ?_);rintro e L ⟨K,vs,rfl,f,hi,d⟩;obtain⟨a,c,rfl,g⟩:=f.cell;have l:=hZ (A.o.kept d);obtain⟨q,p,m⟩:=Ac.cells1 l.o;rw[hi.length];obtain⟨u,J,D⟩:=hi.get n _ (Q9 y.o);obtain⟨Q,R,rfl⟩:=D.iface;obtain⟨b,o,rfl,S,T⟩:=g n _ J;have N:=hZ D;clear f hi g J D))
   refine bodyPost_ret (v:= .tuple #[.agg #[.iface Q R],.bool true]) (by simp[results,results150,go_sem,q,p,m]) rfl ⟨_,_,rfl, ?_,.inl ⟨rfl,by omega,_,Q9 (by simpa using y.o), ?_⟩⟩
   .have G:=r.o.trans d
    (repeat(first|exact G|with_reducible refine c1 ?_ _|with_reducible refine c2 ?_|with_reducible refine c3 ?_ _|with_reducible refine c4 ?_ _ _ (by simp)|with_reducible refine c4 ?_ _ _ (by simp;omega)))
   .refine Af.kept (F:=F) (Chg.keepsF (bs:=[w.heap.size+1]) ((Chg.refl _ _).setCell _ _ (by simp)) (fun k j=> ?_) (fun k j O=> ?_)) (fun _ h=>h) _ _ (by simpa using N.o)
    .have:=s.o k j
     have:=(r.o.trans d).size;omega
    .simp at j;subst j;have:=s.o _ O;omega
  .have y:=hZ I
   go_enter func150,ntmps150
   go_wp2_with(first|(go_at_call 66;(with_reducible refine B.o.mono ?_);rintro e L ⟨K,vs,rfl,f,hi,d⟩;obtain⟨a,c,rfl,g⟩:=f.cell;have l:=hZ (A.o.kept d);obtain⟨q,p,m⟩:=Ac.cells1 l.o;rw[hi.length];clear f hi g))
   refine bodyPost_ret (v:= .tuple #[.agg #[.nilIface],.bool false]) (by simp[results,results150,go_sem,q,p,m]) rfl ⟨_,_,rfl, ?_,.inr ⟨rfl,rfl,.inr (by have:=y.o;omega)⟩⟩;have G:=r.o.trans d
   (repeat(first|exact G|with_reducible refine c1 ?_ _|with_reducible refine c2 ?_|with_reducible refine c3 ?_ _|with_reducible refine c4 ?_ _ _ (by simp)|with_reducible refine c4 ?_ _ _ (by simp;omega)))
def cX(F:Nat->Prop)(t:Tr)(a:BY)(w:Wl)(e:Ending)(w':Wl):Prop:=
 ∃v ok,e= .returned (.tuple #[.agg #[v],.bool ok])/\Chg w w' []/\((ok=true/\∃(i:Nat) (u:Tr),(JN t)[i]? =some a/\(Ab t)[i]? =some u/\Af w' F u v)\/(ok=false/\v= .nilIface/\a∉JN t))
theorem dh{F:Nat->Prop}{t:Tr}{j:BY}{i:Nat}{w:Wl}{u:Vl}{ok:Bool}(h:(ok=true/\0<=(i:Int)/\∃x,(Ab t)[(i:Int).toNat]? =some x/\Af w F x u)\/(ok=false/\u= .nilIface/\((i:Int)<0\/((Ab t).length:Int)<=i)))(g:(JN t)[i]? =some j)(l:(JN t).length=0\/(JN t).length=(Ab t).length):
  ok=true/\∃(a:Tr) (b:Ti) (c:Vl),u= .iface b c/\(Ab t)[i]? =some a/\Af w F a u:=by
 have m:=(Qc.1 g).1
 rcases h with⟨e,_,a,k,d⟩|⟨_,_,q⟩
 .obtain⟨b,c,f⟩:=d.iface
  exact⟨e,a,b,c,f,by simpa using k,d⟩
 .omega
theorem db(F:Nat->Prop)(t:Tr)(v:Vl)(d:BY)(w:Wl)(n:Af w F t v)(A:∀k,F k->k<w.heap.size)(E:Cy (JN t))(D:(JN t).length=0\/(JN t).length=(Ab t).length)(aa:(Ab t).length<=2147483648)(H:Utf.Al d=true)(hs:d.size<=2147483648):
  Cl prog 151 #[.agg #[v],.string d] w (cX F t d w):=by
 have r:=hZ n;have b:=hZ A;have S:=hZ E;have T:=hZ H;have R:=hZ D;obtain⟨f,x,rfl⟩:=n.iface;have j:=(((Chg.refl w []).alloc (.cells #[.iface f x] 64)).alloc (.cells #[.nilIface] 64));have L:=hZ ((Ac.new w [.iface f x] 64).alloc (.cells #[.nilIface] 64));have N:=hZ (CH w (.cells #[.iface f x] 64) [.nilIface] 64);have o:=hZ j;have P:=hZ (RY F t (.iface f x) _ (Af.kept (j.keepsF b.o) (fun _ h=>h) _ _ r.o) (fun k a=>Q6 (b.o k a) j.size));clear n A j E H D;go_enter func151,ntmps151
 go_wp2_with(first
  |(go_at_call 65;(with_reducible refine P.o.mono ?_);rintro e w1 ⟨sk,rfl,C,B⟩;have Q:=hZ C;have g:=hZ B;clear C B)
  |(go_at_call 182;(with_reducible refine(Za F sk (JN t) d _ Q.o (fun k a=>Q6 (b.o k a) (o.o.trans g.o).size) S.o T.o hs).mono ?_);rintro e w2 ⟨i,ok,rfl,l,s,y⟩;have q:=hZ ((N.o.kept g.o).kept l);obtain⟨lb,Y,W⟩:=Ac.cells1 q.o;have M:=hZ ((L.o.kept g.o).kept l);obtain⟨af,ae,ad⟩:=Ac.cells1 M.o;have p:=hZ s;have K:=hZ y;have c:=hZ ((o.o.trans g.o).trans l);clear s y l;cases ok)
  |(go_at_call 150;go_loud((with_reducible refine(cZ F t (.iface f x) i _ (Af.kept (c.o.keepsF b.o) (fun _ h=>h) _ _ r.o) (fun k a=>Q6 (b.o k a) c.o.size) aa).mono ?_);rintro e w3 ⟨u,ag,rfl,m,z⟩;have O:=hZ (q.o.kept m);obtain⟨ab,Z,X⟩:=Ac.cells1 O.o;obtain⟨rfl,tt,tu,xu,rfl,I,J⟩:=dh z (p.o (by trivial)) R.o;have U:=hZ I;have V:=hZ J;clear z I J)))
 .refine bodyPost_ret (v:= .tuple #[.agg #[.nilIface],.bool false]) (by simp[results,results151,go_sem,lb,Y,W]) rfl ⟨_,_,rfl, ?_,.inr ⟨rfl,rfl,K.o (by trivial)⟩⟩
  have G:=c.o
  (repeat(first|exact G|with_reducible refine c1 ?_ _|with_reducible refine c2 ?_|with_reducible refine c3 ?_ _|with_reducible refine c4 ?_ _ _ (by simp)|with_reducible refine c4 ?_ _ _ (by simp;omega)))
 .refine bodyPost_ret (v:= .tuple #[.agg #[.iface tu xu],.bool true]) (by simp[results,results151,go_sem,ab,Z,X]) rfl ⟨_,_,rfl, ?_,.inl ⟨rfl,i,tt,p.o (by trivial),U.o, ?_⟩⟩
  .have G:=c.o.trans m
   (repeat(first|exact G|with_reducible refine c1 ?_ _|with_reducible refine c2 ?_|with_reducible refine c3 ?_ _|with_reducible refine c4 ?_ _ _ (by simp)|with_reducible refine c4 ?_ _ _ (by simp;omega)))
  .refine Af.kept (F:=F) (Chg.keepsF (bs:=[w.heap.size+1]) ((Chg.refl _ _).setCell _ _ (by simp)) (fun k a=> ?_) (fun k a hf=> ?_)) (fun _ h=>h) _ _ V.o
   .have:=b.o k a
    have:=(c.o.trans m).size;omega
   .simp at a;subst a;have:=b.o _ hf;omega
end
section
open Go Go.RowKit Tree
theorem Ng{P:Program}{p:Array Oper}{rest:List Oper}{o:Oper}{a:Act}{Q:Exit->Act->Wl->Prop}{w:Wl}(D:o.guard=none)(s x:Operand)(t:Ti)(I:o.op= .call {callee:= .builtin .append,args:=#[s,x],argTypes:=#[t,t]})(e:Ti)(z:Vl)(sz f:Nat)(N:0<sz)(R:P.underlying t=some (.slice e))(E:(P.info? e).map (fun i=>(i.zero,i.size,i.bytes))=some (some z,sz,f))(Y:z.cells.size=sz)(sv:Vl)(n:Nat)(xs:List Vl)(M:a.eval s=sv)(J:Ba w sv e sz n xs)(B m c:Nat)(us:List Vl)(W:a.eval x= .slice (some ⟨B,0,none⟩) m c)(G:0<m)(U:us.length=m*sz)(S:∀j v,us[j]? =some v->w.cell? ⟨B,j,none⟩=some v)(T:∀u∈us,u.oneCell'=true)(l:(n+m)*f<=140737488355328)(aa:n+m<=140737488355328)(h:∀g d w',Ba w' (.slice (some ⟨g,0,none⟩) (n+m) d) e sz (n+m) (xs++us)->Chg w w' sv.ownBlock.toList->(sv.ownBlock=some g\/g=w.heap.size)->
   wpList P p Q rest (a.put o.dst (.slice (some ⟨g,0,none⟩) (n+m) d)) w'):wpList P p Q (o::rest) a w:=by
 obtain⟨i,hi,X,O,A⟩:=info_parts E
 have H:∀j v,us[j]? =some v->w.cell? ((⟨B,0,none⟩:Addr).add j)=some v:=fun j v V=>by
  rw[show(⟨B,0,none⟩:Addr).add j=⟨B,j,none⟩from by unfold Addr.add;split<;>simp_all];exact S j v V
 obtain⟨g,d,w',L,q,b,r,Z⟩:=run_append_lies (P:=P) w t o.type 0 e i z sz f R hi X O A Y N sv n xs J ⟨B,0,none⟩ m c us U H T G (by unfold maxLen;omega) l (Nat.zero_le _) _ rfl;refine wpList_plain D fun K y=> ?_
 unfold Oper.wp execOp;simp only[I,resolve,invoke,builtin,Sem.run_bind,Sem.run_pure,Result.andThen_ok,List.map_toArray,List.map_cons,List.map_nil,M,W,L];exact y _ _ (h g d w' q ⟨b.os,b.tape,b.output,b.size,fun k F l=>b.block k F fun C=>l (by rw[<-C];simp)⟩ r)
theorem AR.one'{w:Wl}{F:Nat->Prop}:∀{l:List Aw} {xs:List Vl},AR w F l xs->∀u∈xs,u.oneCell'=true
 |[],_,h,u,b=>by unfold AR at h;subst h;cases b
 |s::l,_,⟨sk,r,d,e,f⟩,u,b=>by
  subst d;obtain⟨a,c,g,_⟩:=e.cell
  rcases Qf.1 b with b|b
  .exact IF s sk a _ c g u b
  .exact f.one' u b
end
section
open _root_.Go.Proofs.Tryz
open Go Go.RowKit Tree
theorem JT(t:Tr):(Ag t).nodes=(Bk (Ab t)).nodes+1:=by
 rw[<-BL,Ea,<-CS];simp
theorem So(l:List Tr)(i:Nat):(Bk (l.take i)).nodes<=(Bk l).nodes:=by
 have h:=congrArg (fun s=>(Bk s).nodes) (List.take_append_drop i l);simp only[G4,Sz.add]at h;omega
def SH(F:Nat->Prop)(t:Tr)(w:Wl)(e:Ending)(w':Wl):Prop:=
 ∃g a b,e= .returned (.slice (some ⟨g,0,none⟩) (Ag t).nodes a)/\Ba w' (.slice (some ⟨g,0,none⟩) (Ag t).nodes a) 158 6 (Ag t).nodes b/\AR w' F (Ai t) b/\Chg w w' []/\w.heap.size<=g
def SG(F:Nat->Prop)(ts:List Tr)(w:Wl)(i:Nat)(a:Vl)(wr:Wl):Prop:=
 ∃b,Ba wr a 158 6 (Bk (ts.take i)).nodes b/\AR wr F (BI (ts.take i)) b/\Chg w wr []/\(∀g,a.ownBlock=some g->w.heap.size<=g)
theorem ZQ:∀(k:Nat) (t:Tr) (F:Nat->Prop) (cs:List Vl) (w:Wl),(Ag t).nodes<=k->(Ag t).nodes<=4294967296->AL w F t cs->(∀b,F b->b<w.heap.size)->
  Cl prog 86 #[.agg cs.toArray] w (SH F t w):=by
 intro k
 induction k with
 |zero=>intro t _ _ _ h;have:=Cv t;omega
 |succ k ih=>
  intro t F cs w hk a3 z hF;have IH:=hZ ih;have C:=hZ hF;obtain⟨la,lc,l,m,xs,rfl,N,aI,aK,af⟩:=z.uni;have X:=hZ N;have aR:=hZ aI;have au:=hZ aK;obtain⟨a,ai⟩:∃a,a=Aa t:=⟨_,rfl⟩
  rw[<-ai]at af X|-;have ao:=hZ ai;have am:=hZ af;have aX:=Bj t;obtain⟨n,aj⟩:∃n,n=(Ab t).length:=⟨_,rfl⟩
  rw[<-aj]at aX|-;have R:=hZ aj;obtain⟨f,aD⟩:∃f,f=a.keys.length:=⟨_,rfl⟩
  rw[<-aD]at X|-;clear ih z hF N aI aK ai af aj aD;obtain⟨w0,O⟩:∃x,x=w.alloc (.cells (vC a.sort a.flag a.bits a.text (.slice la n lc) (.slice l f m)).toArray 29):=⟨_,rfl⟩
  have HX:Hid (Ac w0 w.heap.size (vC a.sort a.flag a.bits a.text (.slice la n lc) (.slice l f m)) 29):=by rw[O];exact hZ (Ac.new _ _ _)
  have q:Hid (Chg w w0 []):=by rw[O];exact hZ ((Chg.refl w []).alloc _)
  have aL:w0.heap.size=w.heap.size+1:=by rw[O];simp
  have av:=hZ aL;rw[Jy]at O;have HW:=hZ O;clear O aL;rw[Jy];go_enter func86,ntmps86
  go_wp2_with fail
  rw[<-HW.o];go_loopw [3,4] (fun v3 v4 wr=>∃(i:Nat) (P:Vl),i<=n/\v4= .int .i64 i/\P=v3/\SG F (Ab t) w0 i P wr) (fun _ v4 _=>n-(intOf v4).toNat)
  case atStart=>exact⟨0,_,by omega,rfl,rfl,[],by simpa[Bk]using Ba.nil _ _ _,by simp[BI,AR],Chg.refl _ _,fun g hg=>by cases hg⟩
  case round=>
   obtain⟨i,P,hi,rfl,rfl,aa,hL,hS,hG,hO⟩:=hrel;have aT:=hZ (HX.o.kept hG);obtain⟨xl,xf,x0,x1,x2,x3,x4,x5⟩:=aT.o.cells6;have Y:=hZ hL;have Z:=hZ hS;have r:=hZ hG;have K:=hZ hO;clear hL hS hG hO;by_cases aW:i<n
   .obtain⟨u,V⟩:∃u,(Ab t)[i]? =some u:=⟨_,Q9 (by rw[<-R.o];exact aW)⟩
    obtain⟨c,hc,G⟩:=au.o.get i u V;have aZ:=CO V;have ay:=hc.length;have ak:=au.o.length
    obtain⟨b,o,rfl,aV,az⟩:∃b o,la=some ⟨b,o,none⟩/\F b/\∀i v,xs[i]? =some v->w.cell? ⟨b,o+i,none⟩=some v:=by
     rcases aR.o with h|h
     .exfalso;rw[h]at ak;simp at ak;have:=R.o;omega
     .exact h
    have a2:=C.o b aV
    have aH:wr.rangeAt b (o+i*6) c:=fun j v z=>by
     have h1:=az _ _ (G j v z);rw[show o+i*6+j=o+(6*i+j)from by omega];exact(q.o.trans r.o).keeps h1
    have aQ:=hZ aH;have HC:=hZ (AL.kept ((q.o.trans r.o).keepsF C.o) (fun _ h=>h) _ _ hc);have aC:(prog.info? 29).map (·.size)=some c.length:=by rw[ay];exact A9
    have aM:=hZ aC;have HU:=hZ V;have aS:Hid (∀b,F b->b<wr.heap.size):=hZ fun b d=>Q6 (C.o b d) (q.o.trans r.o).size
    have aG:=Cv u
    have aY:(Bk ((Ab t).take i)).nodes+(Ag u).nodes<=(Ag t).nodes:=by
     have h1:=So (Ab t) (i+1);rw[BM V]at h1;have h2:=JT t;simp only[Sz.add]at h1;omega
    have B:Hid (((Bk ((Ab t).take i)).nodes+(Ag u).nodes)*72<=140737488355328/\(Bk ((Ab t).take i)).nodes+(Ag u).nodes<=140737488355328/\0<(Ag u).nodes):=hZ ⟨by omega,by omega,aG⟩;have aP:=hZ (IH.o u F c wr (by omega) (by omega) HC.o aS.o);clear V hc G aZ ay ak az aH aC aY aG xf
    go_wp2_with(first
     |(refine wpList_load_mid rfl _ _ rfl b (o+i*6) (by rfl) c _ aQ.o underlying29 rfl aM.o ?_))
    refine aP.o.mono ?_;rintro e w6 ⟨g6,aU,al,rfl,ax,ae,aw,a1⟩;have aN:=hZ ax;have ar:=hZ ae;have an:=hZ aw;have aE:al.length=(Ag u).nodes*6:=by rw[ae.length,BL];omega
    have aO:=hZ aE;clear ax ae aw aE x0 x1 x2 x3 x4 x5
    go_wp2_with(first
     |(at_builtin;go_loud(refine Ng rfl _ _ _ rfl 158 PN 6 72 (by decide) underlying156 GO rfl P (Bk ((Ab t).take i)).nodes aa (by rfl) (by exact Y.o.kept an.o) g6 (Ag u).nodes aU al (by rfl) B.o.2.2 aO.o (fun j v z=>aN.o.cell rfl j v z) ar.o.one' B.o.1 B.o.2.1 ?_);intro g7 a0 A y D E;have I:=hZ y;have Q:=hZ D;have S:=hZ E;clear y D E))
    go_roundw
    case rel=>
     have ah:Chg w0 w6 []:=r.o.trans an.o;have aB:Chg w0 A []:=ah.fresh Q.o (fun j U=>K.o j (by simpa using U));have H:∀b,F b->b<w0.heap.size:=fun b d=>Q6 (C.o b d) q.o.size
     have M:∀(s:Wl),Chg w0 s []->BZ F s A:=fun s W b o d=>(aB.cell (p:=⟨b,o,none⟩) (H b d) (by simp)).trans (W.cell (p:=⟨b,o,none⟩) (H b d) (by simp)).symm
     refine⟨i+1,_,by omega,by go_num,rfl,aa++al, ?_, ?_,aB, ?_⟩
     .rw[BM HU.o]
      simpa[Sz.add]using I.o
     .rw[EA HU.o]
      exact(AR.kept (M wr r.o) (fun _ h=>h) _ _ Z.o).append (AR.kept (M w6 ah) (fun _ h=>h) _ _ ar.o)
     .intro g' aA
      simp[Vl.ownBlock]at aA;subst aA
      rcases S.o with h|h
      .exact K.o _ h
      .have:=ah.size;omega
    case measure=>simp[intOf];omega
   .obtain rfl:n=i:=by omega
    have aJ:(Ab t).take n=Ab t:=Qn (by rw[R.o];exact Q8 _);rw[aJ]at Y Z;have aF:=JT t;have ap:=hZ aF;have B:Hid (((Bk (Ab t)).nodes+1)*72<=140737488355328/\(Bk (Ab t)).nodes<=140737488355328):=hZ ⟨by omega,by omega⟩;clear aJ aF
    have aq:Hid (∀(A:Obj) (us:List Vl),Ac ((wr.alloc A).alloc (.cells us.toArray 158)) (wr.heap.size+1) us 158):=hZ (fun A us=>by
     have h:=Ac.new (wr.alloc A) us 158;rw[World.size_alloc]at h
     exact h)
    by_cases L:a.sort=5
    .have G:(a.count:Int)=(n:Int):=by rw[am.o];first|rw[Qr L,R.o]|(rw[Qs L];rfl)
     have d5:((a.sort:Int)==5)=true:=by simp;omega
     have T:Hid (Ci a (.slice l f m)=[.int .i64 a.sort,.bool a.flag,.int .u64 a.bits,.string a.text,.int .i64 (n:Int),.slice l f m]):=hZ (by unfold Ci;rw[G]);have ab:Hid (∀u∈([.int .i64 a.sort,.bool a.flag,.int .u64 a.bits,.string a.text,.int .i64 (n:Int),.slice l f m]:List Vl),u.oneCell'=true):=hZ (by rw[<-T.o];exact IF _ _ l f m rfl);clear G L
     go_wp2_with(first
      |(at_builtin;go_loud(refine Bg rfl _ _ _ rfl 158 PN 6 72 (by decide) underlying156 GO rfl P (Bk (Ab t)).nodes aa (by rfl) (by exact Y.o.kept (bs:=[]) (by exact cg cR) (by simp)) (wr.heap.size+1) [.int .i64 a.sort,.bool a.flag,.int .u64 a.bits,.string a.text,.int .i64 (n:Int),.slice l f m] (by rfl) rfl (by intro j v z;exact((aq.o _ _).cell j).trans z) ab.o B.o.1 B.o.2 ?_);intro g ad A y D E;rw[<-T.o]at y;have I:=hZ y;have Q:=hZ D;have S:=hZ E;clear y D E))
     have ag:(Bk (Ab t)).nodes+1=(Ag t).nodes:=ap.o.symm;rw[ag]at I|-;go_ret
     have J:Chg w0 A []:=((r.o.alloc _).alloc _).fresh Q.o (fun j U=>K.o j (by simpa using U));have H:∀b,F b->b<w0.heap.size:=fun b d=>Q6 (C.o b d) q.o.size
     have M:∀(s:Wl),Chg w0 s []->BZ F s A:=fun s W b o d=>(J.cell (p:=⟨b,o,none⟩) (H b d) (by simp)).trans (W.cell (p:=⟨b,o,none⟩) (H b d) (by simp)).symm
     have N:Ax A F (.slice l f m) (Ad a.keys):=X.o.kept ((q.o.trans J).keepsF C.o) (fun _ h=>h);refine⟨g,ad,_,rfl,I.o, ?_,q.o.trans J, ?_⟩
     .rw[Ea,<-ao.o]
      exact(AR.kept (M wr r.o) (fun _ h=>h) _ _ Z.o).append (AR.one a _ N)
     .rcases S.o with h|h
      .have:=K.o _ h;have:=av.o;omega
      .have:=(q.o.trans r.o).size;simp at h;omega
    .have G:(a.count:Int)=(0:Int):=by rw[am.o];first|rw[Qr L,R.o]|(rw[Qs L];rfl)
     have d5:((a.sort:Int)==5)=false:=by simp;omega
     have T:Hid (Ci a (.slice l f m)=[.int .i64 a.sort,.bool a.flag,.int .u64 a.bits,.string a.text,.int .i64 (0:Int),.slice l f m]):=hZ (by unfold Ci;rw[G]);have ab:Hid (∀u∈([.int .i64 a.sort,.bool a.flag,.int .u64 a.bits,.string a.text,.int .i64 (0:Int),.slice l f m]:List Vl),u.oneCell'=true):=hZ (by rw[<-T.o];exact IF _ _ l f m rfl);clear G L
     go_wp2_with(first
      |(at_builtin;go_loud(refine Bg rfl _ _ _ rfl 158 PN 6 72 (by decide) underlying156 GO rfl P (Bk (Ab t)).nodes aa (by rfl) (by exact Y.o.kept (bs:=[]) (by exact cg cR) (by simp)) (wr.heap.size+1) [.int .i64 a.sort,.bool a.flag,.int .u64 a.bits,.string a.text,.int .i64 (0:Int),.slice l f m] (by rfl) rfl (by intro j v z;exact((aq.o _ _).cell j).trans z) ab.o B.o.1 B.o.2 ?_);intro g ad A y D E;rw[<-T.o]at y;have I:=hZ y;have Q:=hZ D;have S:=hZ E;clear y D E))
     have ag:(Bk (Ab t)).nodes+1=(Ag t).nodes:=ap.o.symm;rw[ag]at I|-;go_ret
     have J:Chg w0 A []:=((r.o.alloc _).alloc _).fresh Q.o (fun j U=>K.o j (by simpa using U));have H:∀b,F b->b<w0.heap.size:=fun b d=>Q6 (C.o b d) q.o.size
     have M:∀(s:Wl),Chg w0 s []->BZ F s A:=fun s W b o d=>(J.cell (p:=⟨b,o,none⟩) (H b d) (by simp)).trans (W.cell (p:=⟨b,o,none⟩) (H b d) (by simp)).symm
     have N:Ax A F (.slice l f m) (Ad a.keys):=X.o.kept ((q.o.trans J).keepsF C.o) (fun _ h=>h);refine⟨g,ad,_,rfl,I.o, ?_,q.o.trans J, ?_⟩
     .rw[Ea,<-ao.o]
      exact(AR.kept (M wr r.o) (fun _ h=>h) _ _ Z.o).append (AR.one a _ N)
     .rcases S.o with h|h
      .have:=K.o _ h;have:=av.o;omega
      .have:=(q.o.trans r.o).size;simp at h;omega
end
section
open Go Go.RowKit Tree Ptr
theorem cH{t x:Tr}{ts:List BY}(h:Bt t)(n:EN t ts=0)(b:ts=[]\/AH ts≠IN):Ah (At t ts x) ts=some x:=by
 by_cases a:ts=[]
 .subst a;rfl
 .have b:=b.resolve_left a
  obtain⟨p,c,j⟩:=Ol a n;have g:=h.lead c;have k:At t ts x=Bz (Cj (AH ts) x) t ts.dropLast:=by unfold At;rw[Qs a]
  have m:Dy (Cj (AH ts) x p) (AH ts)=some x:=by
   have new:(∀ks l,p= .obj ks l->C4 ks (AH ts)=false)->Dy (Cj (AH ts) x p) (AH ts)=some x:=by
    intro o;have:=(Yl (x:=x) g.good j o).1;have e:Eo (AH ts) p=AH ts:=by cases p<;>simp[Eo,b]
    rwa[e]at this
   cases p with
   |obj ks l=>
    by_cases d:C4 ks (AH ts)=true
    .exact(YR (x:=x) g.good.2.1 d).1
    .exact new fun s u e=>by injection e with i r;subst i;simpa using d
   |_=>exact new fun _ _ e=>by cases e
  have q:Ah (At t ts x) (ts.dropLast++[AH ts])=some x:=by
   rw[BW,k,Mf (f:=Cj (AH ts) x) c];exact m
  rwa[CL ts a]at q
theorem cE{s:BY}{ts:List BY}(h:AD s=some ts)(b:ts≠[])(a:AH ts=IN):∃l,s.data.toList=l++[47,45]:=by
 rw[<-JZ h,<-CL ts b,YL,a];exact⟨_,rfl⟩
theorem cF{t f:Tr}{u v:List CW}{i:Nat}{a:List Bq}{o:Bq}(h:BR t u i (a++[o])= .yes f v):∃b u1 j,BR t u i a= .yes b u1/\Gz b o= .yes f j:=by
 rw[Ik]at h
 cases d:BR t u i a with
 |no e k=>rw[d]at h;cases h
 |yes b u1=>
  rw[d]at h;simp only[BR]at h
  cases c:Gz b o with
  |no e=>rw[c]at h;cases h
  |yes n l=>
   rw[c]at h
   injection h with g m
   exact⟨b,u1,l,rfl,by rw[c,g]⟩
theorem cG{t j:Tr}{v:List CW}{o:Bq}(h:Bt t)(p:ZL o)(a:Gz t o= .yes j v)(b:o.kind=1\/o.kind=3)(m:∀l,o.path.data.toList≠l++[47,45]):
  ∃ts x,AD o.path=some ts/\AS o.steps=some x/\Ah j ts=some x:=by
 unfold Gz at a;split at a
 .cases a
 .rename_i e
  have e:Bn o=0:=by simpa using e
  obtain⟨_,⟨ts,g⟩,_,d⟩:=EK e
  have n:AN o.kind=true:=by rcases b with b|b<;>(rw[b];rfl)
  obtain⟨x,d⟩:=d n;refine⟨ts,x,g,d, ?_⟩;rw[g,d,Option.getD_some,Option.getD_some]at a;unfold Da at a
  rcases b with b|b
  .rw[Qr b]at a
   obtain⟨k,rfl,_,_⟩:=Fd a;refine cH h k ?_;by_cases i:ts=[]
   .exact .inl i
   .refine .inr fun c=> ?_
    obtain⟨l,c⟩:=cE g i c;exact m l c
  .rw[Qs (by omega),Qs (by omega),Qr b]at a
   cases c:Ah t ts with
   |none=>rw[c]at a;cases a
   |some u=>
    rw[c]at a;obtain⟨rfl,_,_⟩:=Ib a;unfold AE;exact Mf (f:=fun _=>x) c
theorem du{t c:Tr}{u v:List CW}{i:Nat}{a:List Bq}{o:Bq}(h:Bt t)(b:∀p∈a++[o],ZL p)(k:BR t u i (a++[o])= .yes c v)(g:o.kind=1\/o.kind=3)(f:∀l,o.path.data.toList≠l++[47,45]):
  ∃ts x,AD o.path=some ts/\AS o.steps=some x/\Ah c ts=some x:=by
 obtain⟨m,u1,n,d,e⟩:=cF k;exact cG (KD h (fun p j=>b p (by simp[j])) d) (b o (by simp)) e g f
end
section
open _root_.Go.Proofs.Tryz
open Go Go.Shelf Go.RowKit Go.Lib Tree Ptr
theorem cI{P:Program}{N:Array Oper}{o:Oper}{a:Act}{K:Act->Wl->Prop}{Q:Exit->Act->Wl->Prop}{E:Prop}{w:Wl}(T:o.guard=none)(s x:Operand)(t:Ti)(D:o.op= .call {callee:= .builtin .append,args:=#[s,x],argTypes:=#[t,t]})(e:Ti)(z:Vl)(r:Nat)(L:P.underlying t=some (.slice e))(U:(P.info? e).map (fun i=>(i.zero,i.size,i.bytes))=some (some z,1,r))(ab:z.cells.size=1)(d:Nat)(J:a.eval s= .slice (some ⟨d,0,none⟩) 0 0)(G:AK w (.slice (some ⟨d,0,none⟩) 0 0) e [])(F:Nat->Prop)(O:Vl)(us:List Vl)(M:a.eval x=O)(I:Ax w F O us)(Y:∀u∈us,u.oneCell'=true)(A:us.length*r<=140737488355328)(ae:us.length<=140737488355328)(h:∀g n w',AK w' (.slice (some ⟨g,0,none⟩) us.length n) e us->Chg w w' [d]->(d=g\/g=w.heap.size)->K (a.put o.dst (.slice (some ⟨g,0,none⟩) us.length n)) w'):
  if Region.wanted o (yielded N a.tmps)=true then Oper.wp P o a w K Q else E:=by
 have hw:Region.wanted o (yielded N a.tmps)=true:=by simp[Region.wanted,T]
 rw[Qr hw];obtain⟨i,hi,hz,X,R⟩:=info_parts U;by_cases C:us=[]
 .subst C
  obtain⟨y,c,rfl,ad⟩:=I.cell;have p:=LC (P:=P) w t o.type e i L hi (some ⟨d,0,none⟩) 0 0 (Q8 _) y c;have aa:a.eval x= .slice y 0 c:=M;unfold Oper.wp execOp;simp only[D,resolve,invoke,builtin,Sem.run_bind,Sem.run_pure,Result.andThen_ok,List.map_toArray,List.map_cons,List.map_nil,J,aa,p];exact h d 0 w G cR (.inl rfl)
 .have H:0<us.length:=List.length_pos_iff.2 C
  obtain⟨b,q,c,rfl,S⟩:=I.cells H
  have W:∀j v,us[j]? =some v->w.cell? ((⟨b,q,none⟩:Addr).add j)=some v:=fun j v Z=>by
   rw[show(⟨b,q,none⟩:Addr).add j=⟨b,q+j,none⟩from by unfold Addr.add;split<;>simp_all];exact S j v Z
  obtain⟨g,n,w',p,B,f,l,h4⟩:=run_append_lies (P:=P) w t o.type 0 e i z 1 r L hi hz X R ab (by decide) (.slice (some ⟨d,0,none⟩) 0 0) 0 [] G ⟨b,q,none⟩ us.length c us (by simp) W Y H (by unfold maxLen;omega) (by simpa using A) (Nat.zero_le _) _ rfl;rw[Nat.zero_add]at B p;unfold Oper.wp execOp;simp only[D,resolve,invoke,builtin,Sem.run_bind,Sem.run_pure,Result.andThen_ok,List.map_toArray,List.map_cons,List.map_nil,J,M,p];refine h g n w' (by simpa[AK]using B) ⟨f.os,f.tape,f.output,f.size,fun k V A=>f.block k V fun m=>A (by have m:some k=some d:=m;injection m with m;subst m;simp)⟩ ?_
  rcases l with l|l
  .exact .inl (by simpa[Vl.ownBlock]using l)
  .exact .inr l
def cJ(t:Tr)(w:Wl)(e:Ending)(w':Wl):Prop:=∃sv,e= .returned sv/\DX w' sv (MW t)/\Chg w w' []
theorem cK{t:Tr}{w w':Wl}{e:Ending}(h:IV t w e w'):cJ t w e w':=by
 obtain⟨g,f,G,i,rfl,b,c,d,_,a⟩:=h;exact⟨_,rfl,PW b c a (BL t).symm,d⟩
def cL(l:List Aw)(w:Wl)(i:Nat)(a:Vl)(wr:Wl):Prop:=
 ∃(ys:List Vl) (F:Nat->Prop),Ba wr a 72 6 i ys/\AR wr F (l.take i) ys/\(∀b,F b->b<wr.heap.size)/\(∀g,a.ownBlock=some g->¬F g)/\(∀g,a.ownBlock=some g->w.heap.size<=g)/\Chg w wr []
theorem dl(t:Tr)(F:Nat->Prop)(cs:List Vl)(w:Wl)(U:(Ag t).nodes<=65536)(S:∀s∈Ai t,s.keys.length<=2147483648)(B:AL w F t cs)(I:∀b,F b->b<w.heap.size):
  Cl prog 46 #[.agg cs.toArray] w (cJ t w):=by
 obtain⟨w0,K⟩:∃y,y=w.alloc (.cells cs.toArray 29):=⟨_,rfl⟩
 have HW:=hZ K;have D:Hid (Chg w w0 []):=by rw[K];exact hZ ((Chg.refl w []).alloc _)
 have aD:Hid (Ac w0 w.heap.size cs 29):=by rw[K];exact hZ (Ac.new w cs _)
 have aH:Hid ((prog.info? 29).map (·.size)=some cs.length):=hZ (by rw[B.length];exact A9);have aC:AL w0 F t cs:=AL.kept (D.o.keepsF I) (fun _ h=>h) _ _ B;have O:=hZ (ZQ _ t F cs w0 (Q8 _) (by omega) aC (fun b l=>Q6 (I b l) D.o.size));have aJ:=hZ S;have T:=BL t;obtain⟨N,hN⟩:∃N,N=(Ag t).nodes:=⟨_,rfl⟩
 have aA:=Cv t;unfold SH at O;rw[<-hN]at U T aA O;have M:=hZ T;have aF:Hid (∀b,F b->b<w0.heap.size):=hZ fun b l=>Q6 (I b l) D.o.size
 clear K B I aC S hN T;go_enter func46,ntmps46
 go_wp2_with(refine Bp rfl _ _ rfl w.heap.size (by rfl) 29 cs (by exact HW.o▸aD.o) _ underlying29 rfl aH.o ?_)
 rw[<-HW.o];refine O.o.mono ?_;rintro e w1 ⟨g1,aX,xs,rfl,ap,au,z,aR⟩;have aK:=hZ ap;have aN:=hZ au;have H1:=hZ (D.o.trans z);have aG:Hid (∀b,F b->b<w1.heap.size):=hZ fun b l=>Q6 (aF.o b l) z.size
 clear ap au z aR;go_wp2_with fail
 go_loopw [4,5] (fun v4 Y wr=>∃(i:Nat) (q:Option Addr) (m:Nat),i<=N/\Y= .int .i64 i/\v4= .slice q i m/\cL (Ai t) w1 i v4 wr) (fun _ Y _=>N-(intOf Y).toNat)
 case atStart=>exact⟨0,none,0,by omega,rfl,rfl,[],fun _=>False,Ba.nil _ _ _,by rw[List.take_zero];rfl,fun _ h=>h.elim,fun _ _ h=>h,(fun g d=>by cases d),Chg.refl _ _⟩
 case round=>
  obtain⟨i,q,m,hi,rfl,rfl,ys,Fk,hL,A,al,am,hO,hG⟩:=hrel;have y:=hZ hL;have HS:=hZ A;have G:=hZ al;have Z:=hZ am;have HO:=hZ hO;have x:=hZ hG;clear hL A al am hO hG;by_cases aT:i<N
  .obtain⟨s,J⟩:∃s,(Ai t)[i]? =some s:=⟨_,Q9 (by rw[M.o];exact aT)⟩
   obtain⟨sk,V,X⟩:=aN.o.get i s J;have S:=aJ.o s (Qi J);have ah:Hid (∀f,Chg wr f []->Ax f F sk (Ad s.keys)):=hZ fun f C=>V.kept ((x.o.trans C).keepsF aG.o) (fun _ h=>h)
   obtain⟨n,o,rfl,_⟩:=V.cell;rw[Ao]at ah X
   have aB:wr.rangeAt g1 (i*6) (Ci s (.slice n s.keys.length o)):=fun j v B=>by
    have z:=aK.o.cell rfl (6*i+j) v (X j v B);rw[show i*6+j=6*i+j from by omega];exact x.o.keeps z
   have ag:=hZ aB;have az:=IF s (.slice n s.keys.length o) n s.keys.length o rfl;have af:=hZ az;have aP:Hid ((Ai t).take (i+1)=(Ai t).take i++[s]):=hZ (Cb J);have aM:Hid (wr.heap.size∉(Vl.slice q i m).ownBlock.toList):=hZ fun k=>by have:=y.o.lt (by simpa using k);omega
   have ae:Hid (∀g,(Vl.slice q i m).ownBlock=some g->g<wr.heap.size):=hZ fun g d=>y.o.lt d
   have ax:s.keys.length*16<=140737488355328:=by omega
   have aS:s.keys.length<=140737488355328:=by omega
   have aw:(i+1)*72<=140737488355328/\i<=140737488355328:=⟨by omega,by omega⟩;have ab:=hZ aw;have aI:=hZ ax;clear J V X aB az aw ax;unfold Ci at ag af
   go_wp2_with(first
    |(refine wpList_load_mid rfl _ _ rfl g1 (i*6) (by go_num) _ _ ag.o underlying158 rfl (by rfl) ?_)
    |(refine Ae rfl _ _ _ rfl wr.heap.size [.int .i64 s.sort,.bool s.flag,.int .u64 s.bits,.string s.text,.int .i64 s.count,.slice n s.keys.length o] (by rfl) (by rfl) 158 _ (BD _ _ [.int .i64 0,.bool false,.int .u64 0,.string ⟨#[]⟩,.int .i64 0,.slice none 0 0] _ _ rfl rfl) (by rfl) rfl af.o ?_;intro w2 aW R av;have aE:=hZ R;have L:Hid (Chg wr w2 []):=hZ (Chg.step (b:=_) (by exact cg cR) av (fun i hi hl=>by simp at hi;omega));have hz:wr.heap.size<w2.heap.size:=R.lt;clear aW R av))
   have P:Hid (∀f bs,Chg w2 f bs->wr.heap.size∉bs->f.cell? ⟨wr.heap.size,0,none⟩=some (.int .i64 s.sort)/\f.cell? ⟨wr.heap.size,1,none⟩=some (.bool s.flag)/\f.cell? ⟨wr.heap.size,2,none⟩=some (.int .u64 s.bits)/\f.cell? ⟨wr.heap.size,3,none⟩=some (.string s.text)/\f.cell? ⟨wr.heap.size,4,none⟩=some (.int .i64 s.count)/\f.cell? ⟨wr.heap.size,5,none⟩=some (.slice n s.keys.length o)):=hZ fun f bs C U=>by
    obtain⟨_,_,x0,x1,x2,x3,x4,x5⟩:=(aE.o.kept C U).cells6;exact⟨x0,x1,x2,x3,x4,x5⟩
   have aO:Hid (∀f,Chg w2 f []->Ax f F (.slice n s.keys.length o) (Ad s.keys)):=hZ fun f C=>ah.o f (L.o.trans C)
   have W:=Ao s.keys
   go_region_held3(fun w'=>w'.cell? ⟨wr.heap.size,0,none⟩=some (.int .i64 s.sort)/\w'.cell? ⟨wr.heap.size,1,none⟩=some (.bool s.flag)/\w'.cell? ⟨wr.heap.size,2,none⟩=some (.int .u64 s.bits)/\w'.cell? ⟨wr.heap.size,3,none⟩=some (.string s.text)/\w'.cell? ⟨wr.heap.size,4,none⟩=some (.int .i64 s.count)/\w'.cell? ⟨wr.heap.size,5,none⟩=some (.slice n s.keys.length o))
    (first|exact P.o _ [] (by exact cg cR) (by simp)|exact P.o _ [] (by exact cg u.o) (by simp)|exact P.o _ _ (ct (u.o.none _) E.o) aM.o)
    (first
     |(refine cI rfl _ _ _ rfl 9 Ho 16 underlying27 Cf rfl w2.heap.size (by rfl) (by first|exact AK.lit _ [] _ 0 rfl (by decide)|exact(AK.lit _ [] _ 0 rfl (by decide)).kept (bs:=[]) (by exact cg cR) (by simp)) F (.slice n s.keys.length o) (Ad s.keys) (by rfl) (by exact aO.o _ (by exact cg cR)) (Gu _) (by rw[W];exact aI.o) (by rw[W];exact aS) ?_;rw[W];intro p ai r aq aj an;have ad:=hZ aq;have u:Hid (Chg w2 r []):=hZ (Chg.step (b:=_) (by exact cg cR) aj (fun i hi hl=>by simp at hi;omega));have aY:w2.heap.size<=p:=(by rcases an with h|h;(exact Nat.le_of_eq h);(simp at h;omega));clear aq aj an)
     |(refine Bw rfl _ _ _ rfl 72 Iq 6 72 (by decide) underlying22 DM rfl (.slice q i m) i ys (by rfl) (by exact y.o.kept (bs:=[]) (by exact cg (L.o.trans u.o)) (by simp)) r.heap.size (Ci s (.slice (some ⟨p,0,none⟩) s.keys.length ai)) (by rfl) (by rfl) (by exact Ff _ _ _) (IF _ _ _ _ _ rfl) ab.o.1 ab.o.2 ?_;intro H aQ w4 ar ak ao;have aL:=hZ ar;have E:Hid (Chg r w4 (Vl.slice q i m).ownBlock.toList):=hZ (ct ((Chg.refl r []).none _) ak);have aa:Hid ((Vl.slice q i m).ownBlock=some H\/r.heap.size<=H):=hZ (ao.imp id (fun h=>by rw[h];simp));clear ar ak ao))
   all_goals
    go_wp2_with fail
    go_roundw
    case rel=>
     have Q:Chg wr w4 (Vl.slice q i m).ownBlock.toList:=((L.o.trans u.o).none _).trans E.o;have a0:=u.o.size;have a1:=E.o.size;have aZ:p<r.heap.size:=ad.o.lt rfl;have aU:∀g,g∈(Vl.slice q i m).ownBlock.toList->g<wr.heap.size:=fun g d=>ae.o g (by simpa using d)
     have ay:(Vl.slice (some ⟨H,0,none⟩) (i+1) aQ).ownBlock=some H:=rfl;refine⟨i+1,_,_,by omega,by go_num,rfl,ys++Ci s (.slice (some ⟨p,0,none⟩) s.keys.length ai),fun b=>Fk b\/b=p,aL.o, ?_, ?_, ?_, ?_, ?_⟩
     .rw[aP.o]
      refine(AR.kept (Q.keepsF G.o (fun b l k=>Z.o b (by simpa using l) k)) (fun _ h=> .inl h) _ _ HS.o).append (AR.one s _ ?_)
      exact(ad.o.kept E.o (fun g d k=>by
        have:=aU g k;have e:g=p:=by injection d with d;exact d.symm
        omega)).rowAt (fun g d=> .inr (by injection d with d;exact d.symm))
     .intro b l
      rcases l with l|l
      .exact Q6 (G.o b l) Q.size
      .omega
     .intro g d k
      rw[ay]at d
      injection d with d
      subst d
      rcases aa.o with h|h
      .rcases k with k|k
       .exact Z.o _ h k
       .have:=ae.o _ h;omega
      .rcases k with k|k
       .have:=G.o _ k;omega
       .omega
     .intro g d
      rw[ay]at d
      injection d with d
      subst d
      rcases aa.o with h|h
      .exact HO.o _ h
      .have:=x.o.size;omega
     .exact x.o.fresh Q (fun g d=>HO.o g (by simpa using d))
    case measure=>simp[intOf];omega
  .obtain rfl:i=N:=by omega
   go_wp2_with fail
   go_ret
   obtain⟨a,c,e,hh⟩:=y.o.form;obtain⟨g,rfl⟩:=hh aA
   injection e with e1 e2 e3
   subst e1;have aV:(Ai t).take i=Ai t:=Qn (by rw[M.o];exact Q8 _);have A:=HS.o;rw[aV]at A;exact⟨_,rfl,PW y.o A G.o M.o.symm,H1.o.trans x.o⟩
def cO(s:BY)(w:Wl)(e:Ending)(w':Wl):Prop:=∃b:Bool,e= .returned (.bool b)/\(b=false->∀l,s.data.toList≠l++[47,45])/\w=w'
theorem cM(s:BY)(w:Wl)(f:s.size<=140737488355328):Cl prog 57 #[.string s,.string ⟨#[47,45]⟩] w (cO s w):=by
 have e:(⟨#[47,45]⟩:BY).size=2:=rfl;go_enter func57,ntmps57
 go_wp2
 .rename_i h
  go_ret
  refine⟨_,rfl,fun c l a=> ?_,rfl⟩;have d:s.size=l.length+2:=by have b:=congrArg List.length a;simpa using b
  rw[Lib.extract_toList,a,d]at c;simp at c
 .rename_i h
  go_ret
  refine⟨_,rfl,fun _ l a=> ?_,rfl⟩;have b:=congrArg List.length a;simp at b;omega
theorem cQ(s:BY)(w:Wl)(f:s.size<=140737488355328):Cl prog 26 #[.string s,.string ⟨#[47,45]⟩] w (cO s w):=by
 have d:=hZ (fun w=>cM s w f);go_enter func26,ntmps26
 go_wp2_with(first
  |(go_at_call 57;refine(d.o _).mono ?_;rintro e g ⟨b,rfl,a,rfl⟩;have c:=hZ a;clear a))
 go_ret
 exact⟨_,rfl,c.o,rfl⟩
theorem cN(b:Nat)(a:Option Addr)(n c:Nat)(w:Wl)(d:65536<n)(f:n<=4294967296):
  Cl prog 43 #[.pointer (some ⟨b,0,none⟩),.slice a n c] w fun e w'=>e= .returned (.tuple #[.pointer none,.iface 50 (.int .i64 3)])/\Chg w w' []:=by
 have h:((65536:Int)<(n:Int)):=by omega
 go_enter func43,ntmps43
 go_wp2_with fail
 go_ret2
 exact⟨rfl,Chg.refl _ _⟩
theorem dq(d:Nat)(a:Option Addr)(n c:Nat)(w:Wl)(h:65536<n)(i:n<=4294967296):
  Cl prog 15 #[.pointer (some ⟨d,0,none⟩),.slice a n c] w fun e w'=>e= .returned (.tuple #[.pointer none,.iface 50 (.int .i64 3)])/\Chg w w' []:=by
 have g:=hZ (cN d a n c w h i);go_enter func15,ntmps15
 go_wp2_with((go_at_call 43;refine g.o.mono ?_;rintro e j ⟨rfl,b⟩;have f:=hZ b;clear b))
 go_ret2
 exact⟨rfl,f.o⟩
def cP(x:Tr)(w:Wl)(e:Ending)(w':Wl):Prop:=∃(F:Nat->Prop) (a:Nat),e= .returned (.tuple #[.pointer (some ⟨a,0,none⟩),.nilIface])/\CG w' F a x/\(∀b,F b->b<w'.heap.size)/\Chg w w' []
theorem cS{l:List Ap}{a:Vl}{xs:List Vl}{w:Wl}{x:Tr}(f:As w a 6 l.length xs)(g:Az w l xs)(i:∀s∈l,Di s)(m:l.length<=4294967296)(n:AS l=some x):
  Cl prog 28 #[a] w (cP x w):=by
 have h:=Fk l a xs w f g i m;have b:(if l.length<=65536 then CA l else none)=some x:=n;unfold BO at h;rw[b]at h;exact h.mono fun e w' ⟨⟨F,o,k,c,d,_⟩,j⟩=>⟨F,o,k,c,d,j⟩
theorem Af.to{w w':Wl}{F:Nat->Prop}{t:Tr}{v:Vl}(h:Af w F t v)(b:Chg w w' [])(a:∀k,F k->k<w.heap.size):Af w' F t v:=Af.kept (b.keepsF a) (fun _ h=>h) _ _ h
def de(F:Nat->Prop)(u:Tr)(w:Wl)(e:Ending)(w':Wl):Prop:=∃v,e= .returned (.tuple #[.agg #[v],.bool true])/\Af w' F u v/\Chg w w' []
theorem cT{v:Vl}(h:∃b x,v= .iface b x):∀u∈[v],u.oneCell'=true:=by
 obtain⟨b,x,rfl⟩:=h;intro u a;simp at a;subst a;rfl
theorem dg(F:Nat->Prop)(t u:Tr)(v:Vl)(s:BY)(w:Wl)(hL:Br w)(T:Af w F t v)(hF:∀k,F k->k<w.heap.size)(o:Bt t)(d:Dy t s=some u)(hr:Utf.Al s=true)(hs:s.size<=2147483648):
  Cl prog 100 #[.agg #[v],.string s] w (de F u w):=by
 obtain⟨K,x,rfl⟩:=T.iface;obtain⟨i,hi,R⟩:=Option.bind_eq_some_iff.1 d;have ax:=(Qc.1 R).1;have ay:=o.many;have hn:=Bj t;have HT:=hZ T;have I:=hZ hF;have HL:=hZ hL;have HR:=hZ hr;have af:=hZ R;have ae:=hZ o;obtain⟨w0,E⟩:∃y,y=(w.alloc (.cells #[.iface K x] 64)).alloc (.cells #[.nilIface] 64):=⟨_,rfl⟩
 have B:Hid (Chg w w0 []):=by rw[E];exact hZ (((Chg.refl w []).alloc _).alloc _)
 have Z:Hid (Ac w0 w.heap.size [.iface K x] 64):=by rw[E];exact hZ ((Ac.new w [.iface K x] 64).alloc _)
 have aa:Hid (Ac w0 (w.heap.size+1) [.nilIface] 64):=by rw[E];exact hZ (CH w _ [.nilIface] 64)
 have HW:=hZ E;have a:Hid (∀b,Chg w0 b []->Af b F t (.iface K x)/\(∀k,F k->k<b.heap.size)):=hZ fun b hx=>⟨HT.o.to (B.o.trans hx) I.o,fun k d=>Q6 (I.o k d) (B.o.trans hx).size⟩
 have ao:(∃l,t= .list l)\/(∃ks l,t= .obj ks l):=by
  cases t with
  |list l=>exact .inl ⟨l,rfl⟩
  |obj ks l=>exact .inr ⟨ks,l,rfl⟩
  |_=>simp[D6]at hi
 clear hL T hF o d hr R E
 rcases ao with⟨l,rfl⟩|⟨ks,l,rfl⟩
 .have HI:Hid (Je s l.length= .tuple #[.int .i64 i,.bool true]):=hZ (by unfold Je;rw[show bL s l.length=some i from hi])
  have ag:l.length<=65536:=by have e:(Ab (.list l)).length=l.length:=rfl;omega
  have M:Hid (∀(b:Wl) (g:Vl) (ok:Bool),((ok=true/\0<=(i:Int)/\∃t,(Ab (.list l))[(i:Int).toNat]? =some t/\Af b F t g)\/(ok=false/\g= .nilIface/\((i:Int)<0\/((Ab (.list l)).length:Int)<=i)))->ok=true/\Af b F u g):=hZ fun b g ok f=>by
   rcases f with⟨O,_,A,z,U⟩|⟨_,_,q⟩
   .rw[Int.toNat_natCast,af.o]at z
    injection z with z
    subst z;exact⟨O,U⟩
   .omega
  clear hi;go_enter func100,ntmps100
  go_wp2_with fail
  rw[<-HW.o];refine(RX F _ _ w0 (a.o w0 cR).1 (a.o w0 cR).2).mono ?_;rintro e p ⟨rfl,c⟩;have n:=hZ c;have H:=hZ (Z.o.kept c);have N:=hZ (aa.o.kept c);obtain⟨l0,f0,c0⟩:=Ac.cells1 H.o;clear c
  go_wp2_with(first
   |(go_at_call 63;refine(Up F _ _ p (a.o p n.o).1 (a.o p n.o).2).mono ?_;rintro e w2 ⟨rfl,r⟩;have Y:=hZ (n.o.trans r);have ab:=hZ (H.o.kept r);have ai:=hZ (N.o.kept r);obtain⟨az,av,ar⟩:=Ac.cells1 ab.o;clear r)
   |(go_at_call 149;refine(Gl s l.length w2 (HL.o.kept (B.o.trans Y.o)) (by omega) (by omega)).mono ?_;rintro e W ⟨rfl,J⟩;rw[HI.o];have L:=hZ (Y.o.trans J);have ad:=hZ (ab.o.kept J);have aj:=hZ (ai.o.kept J);obtain⟨aA,aw,au⟩:=Ac.cells1 ad.o;clear J)
   |(go_at_call 150;refine(cZ F (.list l) _ i W (a.o W L.o).1 (a.o W L.o).2 (by show l.length<=_;omega)).mono ?_;rintro e G ⟨V,ok,rfl,m,f⟩;obtain⟨rfl,q⟩:=M.o G V ok f;obtain⟨A,X,rfl⟩:=q.iface;have Q:=hZ q;have C:=hZ (L.o.trans m);have aq:=hZ (ad.o.kept m);have D:=hZ (aj.o.kept m);obtain⟨ap,am,al⟩:=Ac.cells1 D.o;clear m q f))
  refine bodyPost_ret (Gn rfl _ _ (w.heap.size+1) 64 [.iface A X] _ rfl (D.o.set 0 _) underlying64 rfl D3) rfl ?_;refine⟨_,rfl,Af.kept (F:=F) (Chg.keepsF (bs:=[w.heap.size+1]) ((Chg.refl _ _).setCell _ _ (by simp)) (a.o G C.o).2 (fun k d o=> ?_)) (fun _ h=>h) _ _ Q.o, ?_⟩
  .simp at d;subst d;have:=I.o _ o;omega
  .exact(B.o.trans C.o).setCell _ _ (fun h=>absurd h (by simp))
 .have S:Cy ks/\ks.length=l.length:=⟨ae.o.good.1,ae.o.good.2.1⟩
  have P:C4 ks s=true/\A5 ks s=i:=by
   have h:(if C4 ks s=true then some (A5 ks s)else none)=some i:=hi;split at h
   .rename_i hh;injection h with h;exact⟨hh,h⟩
   .cases h
  have ak:Hid (∀(j:Nat) (x:Tr),ks[j]? =some s->(Ab (.obj ks l))[j]? =some x->x=u):=hZ fun j x c r=>by
   obtain⟨an,he⟩:=Qc.1 c;have:=GU S.1.nodup j an;rw[he,P.2]at this;subst this;have:=af.o;rw[r]at this;injection this
  have ah:s∈ks:=Cp.1 P.1
  have M:Hid (∀(b:Wl) (g:Vl) (ok:Bool),((ok=true/\∃(j:Nat) (x:Tr),(JN (.obj ks l))[j]? =some s/\(Ab (.obj ks l))[j]? =some x/\Af b F x g)\/(ok=false/\g= .nilIface/\s∉JN (.obj ks l)))->ok=true/\Af b F u g):=hZ fun b g ok f=>by
   rcases f with⟨O,j,A,z,U,q3⟩|⟨_,_,q⟩
   .exact⟨O,ak.o j A z U▸q3⟩
   .exact absurd ah q
  have HK:=hZ S;have ag:l.length<=2147483648:=by have e:(Ab (.obj ks l)).length=l.length:=rfl;omega
  clear hi S P ah;go_enter func100,ntmps100
  go_wp2_with fail
  rw[<-HW.o];refine(RX F _ _ w0 (a.o w0 cR).1 (a.o w0 cR).2).mono ?_;rintro e p ⟨rfl,c⟩;have n:=hZ c;have H:=hZ (Z.o.kept c);have N:=hZ (aa.o.kept c);obtain⟨l0,f0,c0⟩:=Ac.cells1 H.o;clear c;go_wp2_with(go_at_call 151;refine(db F (.obj ks l) _ s p (a.o p n.o).1 (a.o p n.o).2 HK.o.1 (.inr HK.o.2) ag HR.o hs).mono ?_;rintro e G ⟨V,ok,rfl,m,f⟩;obtain⟨rfl,q⟩:=M.o G V ok f;obtain⟨A,X,rfl⟩:=q.iface;have Q:=hZ q;have C:=hZ (n.o.trans m);have D:=hZ (N.o.kept m);obtain⟨ap,am,al⟩:=Ac.cells1 D.o;clear m q f)
  refine bodyPost_ret (Gn rfl _ _ (w.heap.size+1) 64 [.iface A X] _ rfl (D.o.set 0 _) underlying64 rfl D3) rfl ?_;refine⟨_,rfl,Af.kept (F:=F) (Chg.keepsF (bs:=[w.heap.size+1]) ((Chg.refl _ _).setCell _ _ (by simp)) (a.o G C.o).2 (fun k d o=> ?_)) (fun _ h=>h) _ _ Q.o, ?_⟩
  .simp at d;subst d;have:=I.o _ o;omega
  .exact(B.o.trans C.o).setCell _ _ (fun h=>absurd h (by simp))
def cU(F:Nat->Prop)(u:Tr)(n:Nat)(w:Wl)(e:Ending)(w':Wl):Prop:=∃v,e= .returned (.tuple #[.agg #[v],.int .i64 n])/\Af w' F u v/\Chg w w' []
theorem cY(F F2:Nat->Prop)(V:Nat)(t u:Tr)(sl:Vl)(ts:List BY)(w:Wl)(hL:Br w)(hT:CG w F V t)(hF:∀k,F k->k<w.heap.size)(hf:Bt t)(hr:Ax w F2 sl (Ad ts))(R:DR ts)(aq:Ah t ts=some u):
  Cl prog 59 #[.pointer (some ⟨V,0,none⟩),sl] w (cU F u ts.length w):=by
 obtain⟨a,c,rfl,am⟩:=hr.cell;rw[Ao];obtain⟨v,hc,D,d⟩:=hT;obtain⟨ti,x,rfl⟩:=D.iface;have hn:=R.many;have HC:=hZ am;have HL:=hZ hL;have ag:=hZ R;have av:=hZ hf;have g:=hZ hF;have af:=hZ aq;have aG:=hZ D;have HR:=hZ fun(wx:Wl) (hx:Chg w wx [])=>IG F V _ wx (hx.keeps hc) ⟨ti,x,rfl⟩ (Q6 d hx.size)
 have h0:Ah t (ts.take 0)=some t:=by rw[List.take_zero];rfl
 clear hL am R hf hF aq hr hc d;obtain⟨Y,E⟩:∃y,y=w.alloc (.cells #[.nilIface] 64):=⟨_,rfl⟩
 have aA:=hZ E;have HA:Hid (Chg w Y []):=by rw[E];exact hZ ((Chg.refl w []).alloc _)
 have ah:Hid (Ac Y w.heap.size [.nilIface] 64):=by rw[E];exact hZ (Ac.new w [.nilIface] _)
 clear E;go_enter func59,ntmps59
 go_wp2_with fail
 rw[<-aA.o];refine(HR.o Y HA.o).mono ?_;rintro e G ⟨rfl,C⟩;have H1:=hZ C;have ay:=hZ (ah.o.kept C);have aB:w.heap.size<G.heap.size:=(ah.o.kept C).lt;clear C;go_wp2_with(refine Ae rfl _ _ _ rfl G.heap.size [.iface ti x] (by rfl) (by rfl) 64 [.nilIface] (BD _ _ [.nilIface] _ _ rfl rfl) D3 rfl (cT ⟨_,_,rfl⟩) ?_;intro w2 aE aj ao;have ab:=hZ aj;have aa:Hid (Chg G w2 []):=hZ (Chg.step (b:=_) (by exact cg cR) ao (fun i hi hl=>by simp at hi;omega));clear aE aj ao)
 have H2:Hid (Chg w w2 []):=hZ (HA.o.trans (H1.o.trans aa.o));have az:=hZ (ay.o.kept aa.o);obtain⟨B,hB⟩:∃B,B=G.heap.size:=⟨_,rfl⟩
 rw[<-hB]at aB ab|-;have aw:=hZ (D.to H2.o g.o);clear hB D;go_loopw [15] (fun W wr=>∃(k:Nat) (y:Tr) (X:Vl),k<=ts.length/\W= .int .i64 k/\Ah t (ts.take k)=some y/\Ac wr w.heap.size [.nilIface] 64/\Ac wr B [X] 64/\Af wr F y X/\Chg w wr []) (fun W _=>ts.length-(intOf W).toNat)
 case atStart=>exact⟨0,t,_,by omega,rfl,h0,az.o,ab.o,aw.o,H2.o⟩
 case round=>
  obtain⟨k,y,X,hk,rfl,ar,al,N,O,hg⟩:=hrel;obtain⟨j,l,rfl⟩:=O.iface;have f:=hZ hg;have ad:=hZ al;have L:=hZ N;have ae:=hZ O;have A:=hZ ar;have lB:B<wr.heap.size:=N.lt;clear hg al N O ar;by_cases aC:k<ts.length
  .obtain⟨s,p⟩:∃s,ts[k]? =some s:=⟨_,Q9 aC⟩
   obtain⟨gb,go,rfl,_,an⟩:=HC.o k (.string s) (by simp[Ad,p]);have aH:=f.o.keeps an;have S:=Qi p
   obtain⟨z,r⟩:∃z,Dy y s=some z:=by
    cases r:Dy y s with
    |some z=>exact⟨z,rfl⟩
    |none=>have:=Iw A.o p r;rw[af.o]at this;cases this
   have HO:=hZ (dg F y z (.iface j l) s wr (HL.o.kept f.o) ae.o (fun k hk=>Q6 (g.o k hk) f.o.size) (av.o.lead A.o) r (ag.o.right s S) (ag.o.small s S));have ax:Hid (Ah t (ts.take (k+1))=some z):=hZ (by rw[Cb p,BW,A.o];exact r);clear p an S r
   go_wp2_with(first
    |(refine Bp rfl _ _ rfl B (by rfl) 64 [.iface j l] (by exact L.o) _ underlying64 rfl D3 ?_)
    |(go_at_call 100;refine HO.o.mono ?_;rintro e H ⟨v3,rfl,q,M⟩;obtain⟨U,Z,rfl⟩:=q.iface;have Q:=hZ q;have I:=hZ M;have l3:B<H.heap.size:=Q6 lB M.size;clear q M)
    |(refine Ae rfl _ _ _ rfl H.heap.size [.iface U Z] (by rfl) (by rfl) 64 [.nilIface] (BD _ _ [.nilIface] _ _ rfl rfl) D3 rfl (cT ⟨_,_,rfl⟩) ?_;intro w4 aF ak ap;have au:=hZ ak;have J:Hid (Chg H w4 []):=hZ (Chg.step (b:=_) (by exact cg cR) ap (fun i hi hl=>by simp at hi;omega));clear aF ak ap)
    |(refine Bp rfl _ _ rfl H.heap.size (by rfl) 64 [.iface U Z] (by exact au.o) _ underlying64 rfl D3 ?_)
    |(refine Ae rfl _ _ _ rfl B [.iface U Z] (by rfl) (by rfl) 64 [.iface j l] ((L.o.kept I.o).kept J.o) D3 rfl (cT ⟨_,_,rfl⟩) ?_;intro w5 T n o;have K:=hZ n;have m:=hZ o;clear T n o))
   go_roundw
   case rel=>
    have ai:Chg wr w5 [B]:=((I.o.trans J.o).none [B]).trans m.o;refine⟨k+1,z,_,by omega,by go_num,ax.o,ad.o.kept ai (by simp;omega),K.o,Af.kept (((J.o.none [B]).trans m.o).keepsF (fun b d=>Q6 (g.o b d) (f.o.trans I.o).size) (fun b d P=> ?_)) (fun _ h=>h) _ _ Q.o,f.o.fresh ai (fun b d=>by simp at d;omega)⟩;simp at d;subst d;have:=g.o _ P;omega
   case measure=>simp[intOf];omega
  .obtain rfl:k=ts.length:=by omega
   have aD:y=u:=by
    have:=A.o;rw[List.take_length,af.o]at this
    injection this with this
    exact this.symm
   subst aD
   go_wp2_with(first
    |(refine Bp rfl _ _ rfl B (by rfl) 64 [.iface j l] (by exact L.o) _ underlying64 rfl D3 ?_)
    |(refine Ae rfl _ _ _ rfl w.heap.size [.iface j l] (by rfl) (by rfl) 64 [.nilIface] ad.o D3 rfl (cT ⟨_,_,rfl⟩) ?_;intro w5 T n o;have K:=hZ n;have m:=hZ o;clear T n o))
   refine bodyPost_ret (Gn rfl _ _ w.heap.size 64 [.iface j l] _ rfl K.o underlying64 rfl D3) rfl ?_;refine⟨_,rfl,Af.kept (m.o.keepsF (fun b d=>Q6 (g.o b d) f.o.size) (fun b d P=> ?_)) (fun _ h=>h) _ _ ae.o,f.o.fresh m.o (fun b d=>by simp at d;omega)⟩;simp at d;subst d;have:=g.o _ P;omega
def cV(F:Nat->Prop)(u:Tr)(w:Wl)(e:Ending)(w':Wl):Prop:=∃v,e= .returned (.tuple #[.agg #[v],.nilIface])/\Af w' F u v/\Chg w w' []
theorem dr(F:Nat->Prop)(l:Nat)(t u:Tr)(s:BY)(ts:List BY)(w:Wl)(B:Br w)(C:CG w F l t)(o:∀k,F k->k<w.heap.size)(T:Bt t)(Y:s.size<=16777216)(E:AD s=some ts)(W:Ah t ts=some u):
  Cl prog 27 #[.pointer (some ⟨l,0,none⟩),.string s] w (cV F u w):=by
 have X:=PK E (by omega)
 have HP:Hid (∀a,Chg w a []->Cl prog 58 #[.string s] a (FA ts a)):=hZ fun a f=>by
  have:=D8 s a (B.kept f) Y;have e:AU s a=FA ts a:=by funext e w';unfold AU;rw[E]
  rwa[e]at this
 have N:Hid (∀a x j,Chg w a []->Ax a x j (Ad ts)->Cl prog 59 #[.pointer (some ⟨l,0,none⟩),j] a (cU F u ts.length a)):=hZ fun a x j f hr=>cY F x l t u j ts a (B.kept f) (C.kept f o) (fun k hk=>Q6 (o k hk) f.size) T hr X W
 have M:=hZ o;obtain⟨n,D⟩:∃n,n=ts.length:=⟨_,rfl⟩
 have O:=hZ D;rw[<-D]at N;have ai:l<w.heap.size:=C.choose_spec.2.2;clear B C o T Y E W X D;obtain⟨H,p⟩:∃y,y=w.alloc (.cells #[.nilIface] 64):=⟨_,rfl⟩
 have af:=hZ p;have L:Hid (Chg w H []):=by rw[p];exact hZ ((Chg.refl w []).alloc _)
 have ad:Hid (Ac H w.heap.size [.nilIface] 64):=by rw[p];exact hZ (Ac.new w [.nilIface] _)
 clear p;go_enter func27,ntmps27
 go_wp2_with fail
 rw[<-af.o];refine(HP.o H L.o).mono ?_;rintro e G ⟨j,rfl,d,_,A⟩;obtain⟨sa,sc,rfl,_⟩:=d.form;rw[Ao,<-O.o]at d;rw[Ao,<-O.o];have ae:Hid (Ax G (fun k=>k<G.heap.size) (.slice sa n sc) (Ad ts)):=hZ (d.rowAt (fun g hg=>d.lt hg));have I:=hZ (L.o.trans A);have P:=hZ (ad.o.kept A);clear A d;go_wp2_with fail
 refine(N.o G _ _ I.o ae.o).mono ?_;rintro e w2 ⟨v2,rfl,q,m⟩;obtain⟨r,v,rfl⟩:=q.iface;have Q:=hZ q;have J:=hZ (I.o.trans m);have ab:=hZ (P.o.kept m);have lR:w.heap.size<w2.heap.size:=(P.o.kept m).lt;clear q m
 go_wp2_with(first
  |(refine Ae rfl _ _ _ rfl w2.heap.size [.iface r v] (by rfl) (by rfl) 64 [.nilIface] (BD _ _ [.nilIface] _ _ rfl rfl) D3 rfl (cT ⟨_,_,rfl⟩) ?_;intro w4 ag R U;have Z:=hZ R;have z:Hid (Chg w2 w4 []):=hZ (Chg.step (b:=_) (by exact cg cR) U (fun i hi d=>by simp at hi;omega));clear ag R U)
  |(refine Bp rfl _ _ rfl w2.heap.size (by rfl) 64 [.iface r v] (by exact Z.o) _ underlying64 rfl D3 ?_)
  |(refine Ae rfl _ _ _ rfl w.heap.size [.iface r v] (by rfl) (by rfl) 64 [.nilIface] (ab.o.kept z.o) D3 rfl (cT ⟨_,_,rfl⟩) ?_;intro w5 ah S V;have aa:=hZ S;have K:=hZ V;clear ah S V))
 refine bodyPost_ret (Gn rfl _ _ w.heap.size 64 [.iface r v] _ rfl aa.o underlying64 rfl D3) rfl ?_;refine⟨_,rfl,Af.kept (((z.o.none [w.heap.size]).trans K.o).keepsF (fun b c=>Q6 (M.o b c) J.o.size) (fun b c hm=> ?_)) (fun _ h=>h) _ _ Q.o,(J.o.trans z.o).fresh K.o (fun b c=>by simp at c;omega)⟩;simp at c;subst c;have:=M.o _ hm;omega
def dm(a:Nat)(cs:List Vl)(j:Nat)(y:Vl):Prop:=match j with
 |0=>y= .pointer (some ⟨a,0,none⟩)
 |3=>y= .pointer (some ⟨a,0,none⟩)
 |4=>True
 |5=>y= .agg cs.toArray
 |6=>True
 |_=>y= .bool true
structure di(t:Tr)(tb:Nat)(cs:List Vl)(w4:Wl)(d:Nat->Bool)(f:Nat->Vl)(w:Wl):Prop where
 chg:Chg w4 w []
 vals:∀j,d j=true->dm tb cs j (f j)
 s1:d 4=true->DX w (f 4) (MW t)
 s2:d 6=true->DX w (f 6) (MW t)
theorem di.vals'{t:Tr}{a:Nat}{cs:List Vl}{g w:Wl}{d:Nat->Bool}{f:Nat->Vl}{j:Nat}{y:Vl}(h:di t a cs g d f w)(c:dm a cs j y):∀k,BA d j k=true->dm a cs k (Eb f j y k):=fun k b=>by
 by_cases e:k=j
 .subst e;rw[Bf];exact c
 .rw[AA f y e];rw[An d e]at b;exact h.vals k b
theorem di.put{t:Tr}{c:Nat}{cs:List Vl}{i w w':Wl}{d:Nat->Bool}{f:Nat->Vl}{j:Nat}{y:Vl}(h:di t c cs i d f w)(e:(4:Nat)≠j)(g:(6:Nat)≠j)(k:dm c cs j y)(b:Chg w w' []):di t c cs i (BA d j) (Eb f j y) w':=
 ⟨h.chg.trans b,h.vals' k,fun a=>by rw[AA f y e];rw[An d e]at a;exact(h.s1 a).kept b,fun a=>by rw[AA f y g];rw[An d g]at a;exact(h.s2 a).kept b⟩
theorem di.put4{t:Tr}{c:Nat}{cs:List Vl}{e w w':Wl}{d:Nat->Bool}{f:Nat->Vl}{y:Vl}(h:di t c cs e d f w)(g:DX w' y (MW t))(a:Chg w w' []):di t c cs e (BA d 4) (Eb f 4 y) w':=
 ⟨h.chg.trans a,h.vals' trivial,fun _=>by rw[Bf];exact g,fun b=>by rw[AA f y (by decide)];rw[An d (by decide)]at b;exact(h.s2 b).kept a⟩
theorem di.put6{t:Tr}{c:Nat}{cs:List Vl}{e w w':Wl}{d:Nat->Bool}{f:Nat->Vl}{y:Vl}(h:di t c cs e d f w)(g:DX w' y (MW t))(a:Chg w w' []):di t c cs e (BA d 6) (Eb f 6 y) w':=
 ⟨h.chg.trans a,h.vals' trivial,fun b=>by rw[AA f y (by decide)];rw[An d (by decide)]at b;exact(h.s1 b).kept a,fun _=>by rw[Bf];exact g⟩
theorem dt(t:Tr)(F B:Nat->Prop)(k:Nat)(cs:List Vl)(w:Wl)(z:Bt t)(N:CG w B k t)(D:∀b,B b->b<w.heap.size)(I:AL w F t cs)(g:∀b,F b->b<w.heap.size):
  Cl prog 19 #[.pointer (some ⟨k,0,none⟩),.agg cs.toArray] w (BU true w):=by
 have hn:=(Ar z.fits).1;have G:∀s∈Ai t,s.keys.length<=2147483648:=fun s H=>(Uy t z.good z.fits s H).keys
 obtain⟨u,A⟩:∃y,y=World.drew (w.alloc (.cells cs.toArray 29)):=⟨_,rfl⟩
 have M:=hZ A;have n:Hid (Chg w u []):=by rw[A];exact hZ ((Chg.refl w []).alloc _).drew
 have HB:Hid (Ac u w.heap.size cs 29):=by rw[A];exact hZ (Ac.new w cs _).drew
 have aa:Hid ((prog.info? 29).map (·.size)=some cs.length):=hZ (by rw[I.length];exact A9)
 have af:Hid (∀i,Chg u i []->Cl prog 38 #[.pointer (some ⟨k,0,none⟩)] i (cJ t i)):=hZ fun i r=>
  (TY B k t i (N.kept (n.o.trans r) D) (fun b E=>Q6 (D b E) (n.o.trans r).size) (by omega)).mono fun e w' h=>cK h
 have ae:Hid (∀i,Chg u i []->Cl prog 46 #[.agg cs.toArray] i (cJ t i)):=hZ fun i r=>
  dl t F cs i hn G (AL.kept ((n.o.trans r).keepsF g) (fun _ h=>h) _ _ I) (fun b E=>Q6 (g b E) (n.o.trans r).size)
 have ab:Hid (∀s∈MW t,s.keys.length<=4294967296):=hZ fun s H=>by
  obtain⟨p,hp,rfl⟩:=List.mem_map.1 H;have:=G p hp
  show p.keys.length<=_
  omega
 clear z N D I g G A;go_enter func19,ntmps19
 go_wp2_with fail
 refine wp_region_any (by kernel_rfl) ?_;change wpAny _ _ _ _ _ _ _ (World.drew _);rw[<-M.o];refine Dg _ (di t k cs u) (by kernel_rfl) ?_ ?_ _ ?_
 .intro ii op a v dd d g al f ak c K j
  match ii,d with
  |0,d=>
   obtain rfl:=Q5 d;have h0:a.tmps.getD 0 undef= .pointer (some ⟨k,0,none⟩):=g.at 0 (by kernel_rfl);rw[Qr (by simp[Region.wanted])];go_simp
   exact j _ _ (by simp) (c.put (by decide) (by decide) (by simp[dm]) cR)
  |1,d=>
   obtain rfl:=Q5 d;have h5:a.tmps.getD 5 undef= .pointer (some ⟨k,0,none⟩):=c.vals 0 (f ⟨0,.data⟩ (by simp) rfl);rw[Qr (by simp[Region.wanted])];go_simp
   exact j _ _ (by simp) (c.put (by decide) (by decide) (by simp[dm]) cR)
  |2,d=>
   obtain rfl:=Q5 d;have h6:a.tmps.getD 6 undef= .bool true:=c.vals 1 (f ⟨1,.data⟩ (by simp) rfl);rw[Qr (by simp[Region.wanted])];go_simp
   exact j _ _ (by simp) (c.put (by decide) (by decide) (by simp[dm]) cR)
  |3,d=>
   obtain rfl:=Q5 d;have h0:a.tmps.getD 0 undef= .pointer (some ⟨k,0,none⟩):=g.at 0 (by kernel_rfl);rw[Qr (Cw rfl (by rfl) (c.vals 2 (f ⟨2,.guard⟩ (by simp) rfl)))];go_simp
   exact j _ _ (by simp) (c.put (by decide) (by decide) (by simp[dm]) cR)
  |4,d=>
   obtain rfl:=Q5 d;have h8:a.tmps.getD 8 undef= .pointer (some ⟨k,0,none⟩):=c.vals 3 (f ⟨3,.data⟩ (by simp) rfl);rw[Qr (Cw rfl (by rfl) (c.vals 2 (f ⟨2,.guard⟩ (by simp) rfl)))];go_simp
   go_at_call 38;refine(af.o v c.chg).mono ?_;rintro e w1 ⟨s1,rfl,q,o⟩;exact j _ _ (by simp) (c.put4 q o)
  |5,d=>
   obtain rfl:=Q5 d;have h3:a.tmps.getD 3 undef= .pointer (some ⟨w.heap.size,0,none⟩):=g.at 3 (by kernel_rfl);rw[Qr (Cw rfl (by rfl) (c.vals 2 (f ⟨2,.guard⟩ (by simp) rfl)))];refine Bd _ _ rfl _ h3 29 _ (HB.o.kept c.chg) _ underlying29 rfl aa.o ?_;exact j _ _ (by simp) (c.put (by decide) (by decide) (by simp[dm]) cR)
  |6,d=>
   obtain rfl:=Q5 d;have ag:a.tmps.getD 10 undef= .agg cs.toArray:=c.vals 5 (f ⟨5,.data⟩ (by simp) rfl);rw[Qr (Cw rfl (by rfl) (c.vals 2 (f ⟨2,.guard⟩ (by simp) rfl)))];go_simp
   go_at_call 46;refine(ae.o v c.chg).mono ?_;rintro e w1 ⟨s1,rfl,q,o⟩;exact j _ _ (by simp) (c.put6 q o)
  |7,d=>
   obtain rfl:=Q5 d;obtain⟨J,h9,Z⟩:∃J,a.tmps.getD 9 undef=J/\DX v J (MW t):=⟨_,rfl,c.s1 (f ⟨4,.data⟩ (by simp) rfl)⟩
   obtain⟨L,ah,q2⟩:∃L,a.tmps.getD 11 undef=L/\DX v L (MW t):=⟨_,rfl,c.s2 (f ⟨6,.data⟩ (by simp) rfl)⟩
   have HE:=Rf _ _ _ v Z q2 (by rw[Ju];omega) ab.o;clear Z q2;rw[Qr (Cw rfl (by rfl) (c.vals 2 (f ⟨2,.guard⟩ (by simp) rfl)))];go_simp
   go_at_call 37;refine HE.mono ?_;rintro e w1 ⟨rfl,o⟩;exact j _ _ (by simp) (c.put (by decide) (by decide) (by simp[dm]) o)
  |8,d=>
   obtain rfl:=Q5 d;have h7:a.tmps.getD 7 undef= .bool true:=c.vals 2 (f ⟨2,.data⟩ (by simp) rfl);have ai:a.tmps.getD 12 undef= .bool true:=c.vals 7 (f ⟨7,.data⟩ (by simp) rfl);rw[Qr (by simp[Region.wanted])];go_simp
   exact j _ _ (by simp) (c.put (by decide) (by decide) (by simp[dm]) cR)
  |9,d=>
   obtain rfl:=Q5 d;have aj:a.tmps.getD 13 undef= .bool true:=c.vals 8 (f ⟨8,.data⟩ (by simp) rfl);rw[Qr (by simp[Region.wanted])];go_simp
   exact j _ _ (by simp) (c.put (by decide) (by decide) (by simp[dm]) cR)
  |_+10,d=>exact absurd d (by simp)
 .intro a wR dd g O c
  have C:a.tmps.getD 4 undef= .bool true:=c.vals 9 (O 9 (by decide));have ad:Hid (Chg w wR []):=hZ (n.o.trans c.chg);clear c O M;have m:=g.form' [5,6,7,8,9,10,11,12,13,4] (by kernel_rfl);have P:=g.defers;obtain⟨l,df⟩:=a;clear g
  dsimp only at m P C
  simp only[List.foldl_cons,List.foldl_nil]at m;rw[C]at m;obtain⟨u5,U⟩:∃x,x=l.getD 5 undef:=⟨_,rfl⟩
  obtain⟨u6,V⟩:∃x,x=l.getD 6 undef:=⟨_,rfl⟩
  obtain⟨u7,W⟩:∃x,x=l.getD 7 undef:=⟨_,rfl⟩
  obtain⟨u8,X⟩:∃x,x=l.getD 8 undef:=⟨_,rfl⟩
  obtain⟨u9,Y⟩:∃x,x=l.getD 9 undef:=⟨_,rfl⟩
  obtain⟨u10,Q⟩:∃x,x=l.getD 10 undef:=⟨_,rfl⟩
  obtain⟨u11,R⟩:∃x,x=l.getD 11 undef:=⟨_,rfl⟩
  obtain⟨u12,S⟩:∃x,x=l.getD 12 undef:=⟨_,rfl⟩
  obtain⟨u13,T⟩:∃x,x=l.getD 13 undef:=⟨_,rfl⟩
  rw[<-U,<-V,<-W,<-X,<-Y,<-Q,<-R,<-S,<-T]at m;clear U V W X Y Q R S T C;simp only[List.setIfInBounds_toArray,List.set_cons_zero,List.set_cons_succ]at m;subst m;subst P;go_wp2_with fail
  go_ret
  exact⟨rfl,ad.o⟩
 .exact⟨Chg.refl _ _,(fun _ e=>by cases e),(fun e=>by cases e),(fun e=>by cases e)⟩
def dp(c:Nat)(a b:Vl)(j:Nat)(y:Vl):Prop:=match j with
 |0=>y= .nilIface
 |3=>y= .nilIface
 |7=>y= .agg #[a]
 |8=>y= .pointer (some ⟨c,0,none⟩)
 |9=>y= .agg #[b]
 |_=>y= .bool true
theorem dE(l:List Ap)(U:List Bq)(sl so:Vl)(xs ys:List Vl)(w:Wl)(hL:Br w)(bE:10<=w.heap.size)(hS:aq w sl l xs)(hA:UG w so U ys):
  Cl prog 7 #[sl,so] w (BU true w):=by
 have HM:=hZ (WL l sl xs w hS.row hS.at_ hS.small hS.many);have HL:=hZ hL;have a9:=hZ bE;have HA:=hZ hA;obtain⟨co,cp,rfl,_⟩:=hS.row.form;obtain⟨bu,a8,rfl,_⟩:=hA.row.form;have bJ:=hA.many;obtain⟨ln,bI⟩:∃n,n=l.length:=⟨_,rfl⟩
 obtain⟨no,bn⟩:∃n,n=U.length:=⟨_,rfl⟩
 have ad:=hZ bn;rw[<-bI]at HM|-;rw[<-bn]at bJ|-;clear hL bE hS hA bI bn
 cases a7:AS l with
 |none=>
  rw[a7]at HM;clear a7 HA ad;go_enter func7,ntmps7
  go_wp2_with fail
  refine HM.o.mono ?_;rintro e M ⟨rfl,N⟩;have H1:=hZ N;clear N
  go_wp2_with(first
   |(refine Ae rfl _ _ _ rfl M.heap.size zV (by rfl) (by rfl) 29 zV (BD _ _ zV _ _ rfl rfl) A9 rfl Ya ?_;intro w2 bs a6 aL;have E:Hid (Chg w w2 []):=hZ (H1.o.trans (Chg.step (b:=_) (by exact cg cR) aL (fun i hi hl=>by simp at hi;omega)));clear bs a6 aL)
   |(go_at_call 13;refine(Ko w2 (HL.o.kept E.o) (Q7 a9.o E.o.size)).mono ?_;rintro e w3 ⟨rfl,h3⟩;have H3:=hZ (E.o.trans h3);clear h3))
  go_ret
  exact⟨rfl,H3.o⟩
 |some t=>
  rw[a7]at HM;clear a7;go_enter func7,ntmps7
  go_wp2_with fail
  refine HM.o.mono ?_;rintro e M ⟨⟨F,Fn,cs,tb,rfl,hv,bG,hT,bF,bH⟩,N⟩;have H1:=hZ N;have HT:=hZ hT;have HV:=hZ hv;have bv:Hid (∀b,F b->b<M.heap.size):=hZ (fun b r=>(bG b r).2);have au:Hid (∀b,Fn b->b<M.heap.size):=hZ (fun b r=>(bF b r).2);have aD:=hZ bH;have al:Hid ((prog.info? 29).map (·.size)=some cs.length):=hZ (by rw[(E7 hv).2];exact A9);have bP:=hZ (E7 hv).1;have bR:Hid (zV.length=cs.length):=hZ (by rw[(E7 hv).2];rfl);clear N hv bG hT bF bH;go_wp2_with(refine Ae rfl _ _ _ rfl M.heap.size cs (by rfl) (by rfl) 29 zV (BD _ _ zV _ _ rfl rfl) al.o bR.o bP.o ?_;intro w2 bs a6 aL;have ar:=hZ a6;have aa:Hid (Chg M w2 []):=hZ (Chg.step (b:=_) (by exact cg cR) aL (fun i hi hl=>by simp at hi;omega));clear bs a6 aL)
  have E:Hid (Chg w w2 []):=hZ (H1.o.trans aa.o);have ah:Hid (∀f,Chg w2 f []->Cl prog 13 #[] f (BU true f)):=hZ fun f s=>Ko f (HL.o.kept (E.o.trans s)) (Q7 a9.o (E.o.trans s).size)
  have av:Hid (∀f,Chg w2 f []->Cl prog 19 #[.pointer (some ⟨tb,0,none⟩),.agg cs.toArray] f (BU true f)):=hZ fun f s=>
   dt t F Fn tb cs f aD.o (HT.o.kept (aa.o.trans s) au.o) (fun b r=>Q6 (au.o b r) (aa.o.trans s).size) (AL.kept ((aa.o.trans s).keepsF bv.o) (fun _ h=>h) _ _ HV.o) (fun b r=>Q6 (bv.o b r) (aa.o.trans s).size)
  by_cases bl:65536<no
  .have ag:=hZ (dq tb bu no a8 w2 bl bJ)
   clear bl;go_wp2_with fail
   refine ag.o.mono ?_;rintro e R ⟨rfl,S⟩;have D:=hZ S;clear S
   go_wp2_with(first
    |(refine Bp rfl _ _ rfl M.heap.size (by rfl) 29 cs (by exact ar.o.kept D.o) _ underlying29 rfl al.o ?_)
    |(go_at_call 19;refine(av.o R D.o).mono ?_;rintro e I ⟨rfl,G⟩;have L:Hid (Chg w2 I []):=hZ (D.o.trans G);clear G)
    |(go_at_call 13;refine(ah.o I L.o).mono ?_;rintro e C ⟨rfl,h6⟩;have B:Hid (Chg w2 C []):=hZ (L.o.trans h6);clear h6))
   go_ret
   exact⟨rfl,E.o.trans B.o⟩
  .have cf:no<=65536:=by omega
   have bq:As w2 (.slice bu no a8) 4 no ys:=by have:=HA.o.row.kept E.o;rwa[<-ad.o]at this
   have bw:=hZ bq;have bQ:Hid (Yc w2 Fn tb t U (.slice bu no a8) ys):=hZ ⟨HL.o.kept E.o,Q7 a9.o E.o.size,HT.o.kept aa.o au.o,fun b r=>Q6 (au.o b r) aa.o.size,aD.o,by rw[<-ad.o];exact bq,Cc.kept E.o HA.o.at_,HA.o.small,by rw[<-ad.o];exact cf⟩;have ag:=IB Fn tb t U _ _ w2 bQ.o;clear bq bl
   cases hr:BR t [] 0 U with
   |no k i=>
    rw[hr]at ag;have ap:=hZ ag;clear ag hr;go_wp2_with fail
    refine ap.o.mono ?_;rintro e R ⟨rfl,S⟩;have D:=hZ S;clear S;unfold Hk
    go_wp2_with(first
     |(refine Bp rfl _ _ rfl M.heap.size (by rfl) 29 cs (by exact ar.o.kept D.o) _ underlying29 rfl al.o ?_)
     |(go_at_call 19;refine(av.o R D.o).mono ?_;rintro e I ⟨rfl,G⟩;have L:Hid (Chg w2 I []):=hZ (D.o.trans G);clear G)
     |(go_at_call 13;refine(ah.o I L.o).mono ?_;rintro e C ⟨rfl,h6⟩;have B:Hid (Chg w2 C []):=hZ (L.o.trans h6);clear h6))
    go_ret
    exact⟨rfl,E.o.trans B.o⟩
   |yes t1 u1=>
    rw[hr]at ag;have ap:=hZ ag;have a4:Hid (Bt t1):=hZ (KD aD.o (fun o d=>(HA.o.small o d).toB) hr);clear ag;by_cases hz:no=0
    .have ch:U=[]:=List.length_eq_zero_iff.1 (by rw[<-ad.o];exact hz)
     subst ch;simp only[BR]at hr
     injection hr with cj _
     subst cj;subst hz;go_wp2_with fail
     refine ap.o.mono ?_;rintro e R ⟨F1,ay,rfl,V,W,X,_⟩;have D:=hZ X;have G1:=hZ V;have G2:=hZ W;clear V W X
     go_wp2_with(first
      |(refine Bp rfl _ _ rfl M.heap.size (by rfl) 29 cs (by exact ar.o.kept D.o) _ underlying29 rfl al.o ?_)
      |(go_at_call 19;refine(av.o R D.o).mono ?_;rintro e I ⟨rfl,G⟩;have ae:=hZ G;have L:Hid (Chg w2 I []):=hZ (D.o.trans G);clear G)
      |(go_at_call 23;refine(OL F1 Fn ay tb t I (G1.o.kept ae.o G2.o) (HT.o.kept (aa.o.trans L.o) au.o) (fun b r=>Q6 (G2.o b r) ae.o.size) (fun b r=>Q6 (au.o b r) (aa.o.trans L.o).size) aD.o).mono ?_;rintro e C ⟨rfl,h6⟩;have B:Hid (Chg w2 C []):=hZ (L.o.trans h6);clear h6)
      |(go_at_call 13;refine(ah.o C B.o).mono ?_;rintro e J ⟨rfl,H⟩;have H7:Hid (Chg w2 J []):=hZ (B.o.trans H);clear H))
     go_ret
     exact⟨rfl,E.o.trans H7.o⟩
    .obtain⟨o,am⟩:∃o,U[no-1]? =some o:=⟨_,Q9 (by rw[<-ad.o];omega)⟩
     have bo:U=U.dropLast++[o]:=by
      have bm:U≠[]:=fun e=>by rw[e]at am;cases am
      have e:=List.dropLast_concat_getLast bm
      have h2:U.getLast bm=o:=by
       have h3:=List.getLast?_eq_some_getLast bm;rw[List.getLast?_eq_getElem?,<-ad.o,am]at h3
       injection h3 with h3
       exact h3.symm
      rw[h2]at e;exact e.symm
     have bL:o∈U:=Qi am;have bp:=HA.o.small o bL;have ci:0<no:=by omega
     have a5:Hid ((∀l,o.path.data.toList≠l++[47,45])->o.kind=1\/o.kind=3->∃ts x,AD o.path=some ts/\AS o.steps=some x/\Ah t1 ts=some x):=hZ fun he Z=>by
      rw[bo]at hr;exact du aD.o (fun p hp=>(HA.o.small p (by rw[bo];exact hp)).toB) hr Z he
     obtain⟨m,rfl⟩:∃m,no=m+1:=⟨no-1,by omega⟩
     rw[Nat.add_sub_cancel]at am;obtain⟨ob,oo,rfl,_⟩:=bw.o.base ci (by decide);have bN:As w2 (.slice (some ⟨ob,oo,none⟩) (m+1) a8) 4 U.length ys:=by rw[<-ad.o];exact bw.o
     obtain⟨sv,zs,br,bO,bK⟩:=Cc.item bN (by rw[<-ad.o];omega) (Cc.kept E.o HA.o.at_) am;obtain⟨va,vc,rfl,_⟩:=br.form;have bx:=hZ br;have bz:=hZ bO;have ax:Hid (∀f,Chg w2 f []->f.rangeAt ob (oo+m*4) (BJ o (.slice va o.steps.length vc))):=hZ fun f s j v hv=>s.keeps (bK j v hv)
     have aw:=hZ bp;have bM:o.path.size<=140737488355328:=Q7 bp.path (by decide);have cn:((m+1:Nat):Int)-1=(m:Int):=by omega
     have cm:(((m+1:Nat):Int)==0)=false:=by simp;omega
     clear bN br bO bK am bL bp hr hz bo;unfold BJ at ax;have bd:Hid (∀k:Int,∀u∈([.int .i64 k,.string o.path,.string o.frm,.slice va o.steps.length vc]:List Vl),u.oneCell'=true):=hZ (by intro k u hu;simp only[Qh,List.not_mem_nil,or_false]at hu;rcases hu with rfl|rfl|rfl|rfl<;>rfl);by_cases Z:o.kind=1\/o.kind=3
     .have a5:=hZ fun he=>a5.o he Z
      rcases Z with Z|Z
      .rw[Z]at ax
       clear Z;go_wp2_with fail
       refine ap.o.mono ?_;rintro e R ⟨F1,ay,rfl,V,W,X,_⟩;have D:=hZ X;have G1:=hZ V;have G2:=hZ W;clear V W X
       go_wp2_with(first
        |(refine Bp rfl _ _ rfl M.heap.size (by rfl) 29 cs (by exact ar.o.kept D.o) _ underlying29 rfl al.o ?_)
        |(go_at_call 19;refine(av.o R D.o).mono ?_;rintro e I ⟨rfl,G⟩;have L:Hid (Chg w2 I []):=hZ (D.o.trans G);have ae:=hZ G;have aF:=hZ (ax.o I L.o);clear G)
        |(refine wpList_load_mid rfl _ _ rfl ob (oo+m*4) (by go_num) _ _ aF.o underlying42 rfl (by rfl) ?_)
        |(refine Ae rfl _ _ _ rfl I.heap.size [.int .i64 1,.string o.path,.string o.frm,.slice va o.steps.length vc] (by rfl) (by rfl) 42 _ (BD _ _ [.int .i64 0,.string ⟨#[]⟩,.string ⟨#[]⟩,.slice none 0 0] _ _ rfl rfl) (by rfl) rfl (bd.o _) ?_;intro C a3 ai Y;have ak:=hZ ai;have af:Hid (Chg R C []):=hZ (ae.o.trans (Chg.step (b:=_) (by exact cg cR) Y (fun i hi hl=>by simp at hi;omega)));have B:Hid (Chg w2 C []):=hZ (L.o.trans (Chg.step (b:=_) (by exact cg cR) Y (fun i hi hl=>by simp at hi;omega)));obtain⟨l6,f6,bA,bB,bC,bD⟩:=Ac.cells4 ak.o;clear a3 ai Y)
        |(go_at_call 26;refine(cQ o.path C bM).mono ?_;rintro e cl ⟨b,rfl,r,rfl⟩;have bi:=hZ r;clear r;cases b)
        |(go_at_call 27;go_loud(obtain⟨ts,x,hp,s,an⟩:=a5.o (bi.o (by trivial));have HX:=hZ s;have aE:=hZ (a4.o.lead an);refine(dr F1 ay t1 x o.path ts C (HL.o.kept (E.o.trans B.o)) (G1.o.kept af.o G2.o) (fun b r=>Q6 (G2.o b r) af.o.size) a4.o aw.o.path hp an).mono ?_;rintro e J ⟨v7,rfl,q,H⟩;obtain⟨tr,xr,rfl⟩:=q.iface;have Q:=hZ q;have ba:=hZ H;have H7:Hid (Chg w2 J []):=hZ (B.o.trans H);have aA:=hZ (af.o.trans H);clear q H hp s an))
        |(refine Ae rfl _ _ _ rfl J.heap.size [.iface tr xr] (by rfl) (by rfl) 64 [.nilIface] (BD _ _ [.nilIface] _ _ rfl rfl) D3 rfl (cT ⟨_,_,rfl⟩) ?_;intro w8 bt aH aM;have bc:=hZ aH;have aC:Hid (Chg J w8 []):=hZ (Chg.step (b:=_) (by exact cg cR) aM (fun i hi hl=>by simp at hi;omega));have ab:Hid (Chg C w8 []):=hZ (ba.o.trans aC.o);obtain⟨l8,f8,bS,bT,bU,bV⟩:=Ac.cells4 (ak.o.kept ab.o);clear bt aH aM)
        |(go_at_call 28;go_loud(refine(cS (bx.o.kept (B.o.trans ab.o)) (Az.kept (B.o.trans ab.o) bz.o) aw.o.steps aw.o.len HX.o).mono ?_;rintro e w9 ⟨F9,xb,rfl,q1,q2,h9⟩;have Q1:=hZ q1;have Q2:=hZ q2;have aj:=hZ h9;clear q1 q2 h9))
        |(go_at_call 13;refine(ah.o C B.o).mono ?_;rintro e J ⟨rfl,H⟩;have H7:Hid (Chg w2 J []):=hZ (B.o.trans H);clear H))
       .have bb:=hZ ((bc.o.kept aj.o))
        obtain⟨vx,aJ,aN,aI⟩:=Q1.o;obtain⟨tx,xx,rfl⟩:=aN.iface;obtain⟨w0,ao⟩:∃y,y=World.drew w9:=⟨_,rfl⟩
        have aG:=hZ ao;have P:Hid (Chg w9 w0 []):=by rw[ao];exact hZ (Chg.refl w9 []).drew
        have az:Hid (Chg w2 w0 []):=hZ (B.o.trans (ab.o.trans (aj.o.trans P.o)));have be:=hZ (bb.o.kept P.o);have aB:Hid (Chg J w0 []):=hZ (aC.o.trans (aj.o.trans P.o));have bf:Hid (∀f,Chg w0 f []->Cl prog 30 #[.pointer (some ⟨xb,0,none⟩)] f fun e w'=>e= .returned (.agg #[.iface tx xx])/\Chg f w' []):=hZ fun f s=>IG F9 xb _ f ((P.o.trans s).keeps aJ) ⟨tx,xx,rfl⟩ (Q6 aI (P.o.trans s).size)
        have bh:Hid (∀f,Chg w0 f []->Cl prog 29 #[.agg #[.iface tr xr],.agg #[.iface tx xx]] f (BU true f)):=hZ fun f s=>
         XF _ x F1 F9 _ _ f (Q8 _) (Ar aE.o.fits).1 aE.o.good (Q.o.to (aB.o.trans s) (fun b r=>Q6 (G2.o b r) aA.o.size)) (aN.to (P.o.trans s) Q2.o) (fun b r=>Q6 (G2.o b r) (aA.o.trans (aB.o.trans s)).size) (fun b r=>Q6 (Q2.o b r) (P.o.trans s).size)
        have bj:Hid (∀f,Chg w0 f []->Cl prog 13 #[] f (BU true f)):=hZ fun f s=>ah.o f (az.o.trans s)
        clear ao aJ aI;refine wp_region_any (by kernel_rfl) ?_;change wpAny _ _ _ _ _ _ _ (World.drew _);rw[<-aG.o];refine Dg _ (PX (dp xb (.iface tr xr) (.iface tx xx)) w0) (by kernel_rfl) ?_ ?_ _ ?_
        .intro ii op a wa dd d O ck g ce c K z
         match ii,d with
         |0,d=>
          obtain rfl:=Q5 d;have bW:a.tmps.getD 12 undef= .nilIface:=O.at 12 (by kernel_rfl);rw[Qr (by simp[Region.wanted])];go_simp
          exact z _ _ (by simp) (c.put (by simp[dp]) cR)
         |1,d=>
          obtain rfl:=Q5 d;have bZ:a.tmps.getD 83 undef= .nilIface:=c.2 0 (g ⟨0,.data⟩ (by simp) rfl);rw[Qr (by simp[Region.wanted])];go_simp
          exact z _ _ (by simp) (c.put (by simp[dp]) cR)
         |2,d=>
          obtain rfl:=Q5 d;have b0:a.tmps.getD 84 undef= .bool true:=c.2 1 (g ⟨1,.data⟩ (by simp) rfl);rw[Qr (by simp[Region.wanted])];go_simp
          exact z _ _ (by simp) (c.put (by simp[dp]) cR)
         |3,d=>
          obtain rfl:=Q5 d;have bY:a.tmps.getD 14 undef= .nilIface:=O.at 14 (by kernel_rfl);rw[Qr (Cw rfl (by rfl) (c.2 2 (g ⟨2,.guard⟩ (by simp) rfl)))];go_simp
          exact z _ _ (by simp) (c.put (by simp[dp]) cR)
         |4,d=>
          obtain rfl:=Q5 d;have b2:a.tmps.getD 86 undef= .nilIface:=c.2 3 (g ⟨3,.data⟩ (by simp) rfl);rw[Qr (Cw rfl (by rfl) (c.2 2 (g ⟨2,.guard⟩ (by simp) rfl)))];go_simp
          exact z _ _ (by simp) (c.put (by simp[dp]) cR)
         |5,d=>
          obtain rfl:=Q5 d;have b1:a.tmps.getD 85 undef= .bool true:=c.2 2 (g ⟨2,.data⟩ (by simp) rfl);have b3:a.tmps.getD 87 undef= .bool true:=c.2 4 (g ⟨4,.data⟩ (by simp) rfl);rw[Qr (by simp[Region.wanted])];go_simp
          exact z _ _ (by simp) (c.put (by simp[dp]) cR)
         |6,d=>
          obtain rfl:=Q5 d;have b4:a.tmps.getD 88 undef= .bool true:=c.2 5 (g ⟨5,.data⟩ (by simp) rfl);rw[Qr (by simp[Region.wanted])];go_simp
          exact z _ _ (by simp) (c.put (by simp[dp]) cR)
         |7,d=>
          obtain rfl:=Q5 d;have bk:a.tmps.getD 11 undef= .pointer (some ⟨J.heap.size,0,none⟩):=O.at 11 (by kernel_rfl);rw[Qr (Cw rfl (by rfl) (c.2 6 (g ⟨6,.guard⟩ (by simp) rfl)))];refine Bd _ _ rfl _ bk 64 _ (be.o.kept c.1) _ underlying64 rfl D3 ?_;exact z _ _ (by simp) (c.put (by simp[dp]) cR)
         |8,d=>
          obtain rfl:=Q5 d;have bX:a.tmps.getD 13 undef= .pointer (some ⟨xb,0,none⟩):=O.at 13 (by kernel_rfl);rw[Qr (Cw rfl (by rfl) (c.2 6 (g ⟨6,.guard⟩ (by simp) rfl)))];go_simp
          exact z _ _ (by simp) (c.put (by simp[dp]) cR)
         |9,d=>
          obtain rfl:=Q5 d;have b7:a.tmps.getD 91 undef= .pointer (some ⟨xb,0,none⟩):=c.2 8 (g ⟨8,.data⟩ (by simp) rfl);rw[Qr (Cw rfl (by rfl) (c.2 6 (g ⟨6,.guard⟩ (by simp) rfl)))];go_simp
          go_at_call 30;refine(bf.o wa c.1).mono ?_;rintro e M ⟨rfl,N⟩;exact z _ _ (by simp) (c.put (by simp[dp]) N)
         |10,d=>
          obtain rfl:=Q5 d;have b6:a.tmps.getD 90 undef= .agg #[.iface tr xr]:=c.2 7 (g ⟨7,.data⟩ (by simp) rfl);have b8:a.tmps.getD 92 undef= .agg #[.iface tx xx]:=c.2 9 (g ⟨9,.data⟩ (by simp) rfl);rw[Qr (Cw rfl (by rfl) (c.2 6 (g ⟨6,.guard⟩ (by simp) rfl)))];go_simp
          go_at_call 29;refine(bh.o wa c.1).mono ?_;rintro e M ⟨rfl,N⟩;exact z _ _ (by simp) (c.put (by simp[dp]) N)
         |11,d=>
          obtain rfl:=Q5 d;have b5:a.tmps.getD 89 undef= .bool true:=c.2 6 (g ⟨6,.data⟩ (by simp) rfl);have b9:a.tmps.getD 93 undef= .bool true:=c.2 10 (g ⟨10,.data⟩ (by simp) rfl);rw[Qr (by simp[Region.wanted])];go_simp
          exact z _ _ (by simp) (c.put (by simp[dp]) cR)
         |12,d=>
          obtain rfl:=Q5 d;have ca:a.tmps.getD 94 undef= .bool true:=c.2 11 (g ⟨11,.data⟩ (by simp) rfl);rw[Qr (by simp[Region.wanted])];go_simp
          exact z _ _ (by simp) (c.put (by simp[dp]) cR)
         |13,d=>
          obtain rfl:=Q5 d;rw[Qr (Cw rfl (by rfl) (c.2 12 (g ⟨12,.guard⟩ (by simp) rfl)))];go_simp
          go_at_call 13;refine(bj.o wa c.1).mono ?_;rintro e M ⟨rfl,N⟩;exact z _ _ (by simp) (c.put (by simp[dp]) N)
         |14,d=>
          obtain rfl:=Q5 d;have cb:a.tmps.getD 95 undef= .bool true:=c.2 12 (g ⟨12,.data⟩ (by simp) rfl);have cc:a.tmps.getD 96 undef= .bool true:=c.2 13 (g ⟨13,.data⟩ (by simp) rfl);rw[Qr (by simp[Region.wanted])];go_simp
          exact z _ _ (by simp) (c.put (by simp[dp]) cR)
         |15,d=>
          obtain rfl:=Q5 d;have cd:a.tmps.getD 97 undef= .bool true:=c.2 14 (g ⟨14,.data⟩ (by simp) rfl);rw[Qr (by simp[Region.wanted])];go_simp
          exact z _ _ (by simp) (c.put (by simp[dp]) cR)
         |_+16,d=>exact absurd d (by simp)
        .intro a wR dd O hd c
         have S:a.tmps.getD 4 undef= .bool true:=c.2 15 (hd 15 (by decide));have bg:Hid (Chg w wR []):=hZ (E.o.trans (az.o.trans c.1));clear c hd aG;have T:=O.form' [83,84,85,86,87,88,89,90,91,92,93,94,95,96,97,4] (by kernel_rfl);have aK:=O.defers;obtain⟨A,df⟩:=a;clear O
         dsimp only at T aK S
         simp only[List.foldl_cons,List.foldl_nil]at T;rw[S]at T;obtain⟨u83,aO⟩:∃x,x=A.getD 83 undef:=⟨_,rfl⟩
         obtain⟨u84,aP⟩:∃x,x=A.getD 84 undef:=⟨_,rfl⟩
         obtain⟨u85,aQ⟩:∃x,x=A.getD 85 undef:=⟨_,rfl⟩
         obtain⟨u86,aR⟩:∃x,x=A.getD 86 undef:=⟨_,rfl⟩
         obtain⟨u87,aS⟩:∃x,x=A.getD 87 undef:=⟨_,rfl⟩
         obtain⟨u88,aT⟩:∃x,x=A.getD 88 undef:=⟨_,rfl⟩
         obtain⟨u89,aU⟩:∃x,x=A.getD 89 undef:=⟨_,rfl⟩
         obtain⟨u90,aV⟩:∃x,x=A.getD 90 undef:=⟨_,rfl⟩
         obtain⟨u91,aW⟩:∃x,x=A.getD 91 undef:=⟨_,rfl⟩
         obtain⟨u92,aX⟩:∃x,x=A.getD 92 undef:=⟨_,rfl⟩
         obtain⟨u93,aY⟩:∃x,x=A.getD 93 undef:=⟨_,rfl⟩
         obtain⟨u94,aZ⟩:∃x,x=A.getD 94 undef:=⟨_,rfl⟩
         obtain⟨u95,a0⟩:∃x,x=A.getD 95 undef:=⟨_,rfl⟩
         obtain⟨u96,a1⟩:∃x,x=A.getD 96 undef:=⟨_,rfl⟩
         obtain⟨u97,a2⟩:∃x,x=A.getD 97 undef:=⟨_,rfl⟩
         rw[<-aO,<-aP,<-aQ,<-aR,<-aS,<-aT,<-aU,<-aV,<-aW,<-aX,<-aY,<-aZ,<-a0,<-a1,<-a2]at T;clear aO aP aQ aR aS aT aU aV aW aX aY aZ a0 a1 a2 S;simp only[List.setIfInBounds_toArray,List.set_cons_zero,List.set_cons_succ]at T;subst T;subst aK;go_wp2_with fail
         go_ret
         exact⟨rfl,bg.o⟩
        .exact⟨Chg.refl _ _,fun _ e=>by cases e⟩
       .go_ret
        exact⟨rfl,E.o.trans H7.o⟩
      .rw[Z]at ax
       clear Z;go_wp2_with fail
       refine ap.o.mono ?_;rintro e R ⟨F1,ay,rfl,V,W,X,_⟩;have D:=hZ X;have G1:=hZ V;have G2:=hZ W;clear V W X
       go_wp2_with(first
        |(refine Bp rfl _ _ rfl M.heap.size (by rfl) 29 cs (by exact ar.o.kept D.o) _ underlying29 rfl al.o ?_)
        |(go_at_call 19;refine(av.o R D.o).mono ?_;rintro e I ⟨rfl,G⟩;have L:Hid (Chg w2 I []):=hZ (D.o.trans G);have ae:=hZ G;have aF:=hZ (ax.o I L.o);clear G)
        |(refine wpList_load_mid rfl _ _ rfl ob (oo+m*4) (by go_num) _ _ aF.o underlying42 rfl (by rfl) ?_)
        |(refine Ae rfl _ _ _ rfl I.heap.size [.int .i64 3,.string o.path,.string o.frm,.slice va o.steps.length vc] (by rfl) (by rfl) 42 _ (BD _ _ [.int .i64 0,.string ⟨#[]⟩,.string ⟨#[]⟩,.slice none 0 0] _ _ rfl rfl) (by rfl) rfl (bd.o _) ?_;intro C a3 ai Y;have ak:=hZ ai;have af:Hid (Chg R C []):=hZ (ae.o.trans (Chg.step (b:=_) (by exact cg cR) Y (fun i hi hl=>by simp at hi;omega)));have B:Hid (Chg w2 C []):=hZ (L.o.trans (Chg.step (b:=_) (by exact cg cR) Y (fun i hi hl=>by simp at hi;omega)));obtain⟨l6,f6,bA,bB,bC,bD⟩:=Ac.cells4 ak.o;clear a3 ai Y)
        |(go_at_call 26;refine(cQ o.path C bM).mono ?_;rintro e cl ⟨b,rfl,r,rfl⟩;have bi:=hZ r;clear r;cases b)
        |(go_at_call 27;go_loud(obtain⟨ts,x,hp,s,an⟩:=a5.o (bi.o (by trivial));have HX:=hZ s;have aE:=hZ (a4.o.lead an);refine(dr F1 ay t1 x o.path ts C (HL.o.kept (E.o.trans B.o)) (G1.o.kept af.o G2.o) (fun b r=>Q6 (G2.o b r) af.o.size) a4.o aw.o.path hp an).mono ?_;rintro e J ⟨v7,rfl,q,H⟩;obtain⟨tr,xr,rfl⟩:=q.iface;have Q:=hZ q;have ba:=hZ H;have H7:Hid (Chg w2 J []):=hZ (B.o.trans H);have aA:=hZ (af.o.trans H);clear q H hp s an))
        |(refine Ae rfl _ _ _ rfl J.heap.size [.iface tr xr] (by rfl) (by rfl) 64 [.nilIface] (BD _ _ [.nilIface] _ _ rfl rfl) D3 rfl (cT ⟨_,_,rfl⟩) ?_;intro w8 bt aH aM;have bc:=hZ aH;have aC:Hid (Chg J w8 []):=hZ (Chg.step (b:=_) (by exact cg cR) aM (fun i hi hl=>by simp at hi;omega));have ab:Hid (Chg C w8 []):=hZ (ba.o.trans aC.o);obtain⟨l8,f8,bS,bT,bU,bV⟩:=Ac.cells4 (ak.o.kept ab.o);clear bt aH aM)
        |(go_at_call 28;go_loud(refine(cS (bx.o.kept (B.o.trans ab.o)) (Az.kept (B.o.trans ab.o) bz.o) aw.o.steps aw.o.len HX.o).mono ?_;rintro e w9 ⟨F9,xb,rfl,q1,q2,h9⟩;have Q1:=hZ q1;have Q2:=hZ q2;have aj:=hZ h9;clear q1 q2 h9))
        |(go_at_call 13;refine(ah.o C B.o).mono ?_;rintro e J ⟨rfl,H⟩;have H7:Hid (Chg w2 J []):=hZ (B.o.trans H);clear H))
       .have bb:=hZ ((bc.o.kept aj.o))
        obtain⟨vx,aJ,aN,aI⟩:=Q1.o;obtain⟨tx,xx,rfl⟩:=aN.iface;obtain⟨w0,ao⟩:∃y,y=World.drew w9:=⟨_,rfl⟩
        have aG:=hZ ao;have P:Hid (Chg w9 w0 []):=by rw[ao];exact hZ (Chg.refl w9 []).drew
        have az:Hid (Chg w2 w0 []):=hZ (B.o.trans (ab.o.trans (aj.o.trans P.o)));have be:=hZ (bb.o.kept P.o);have aB:Hid (Chg J w0 []):=hZ (aC.o.trans (aj.o.trans P.o));have bf:Hid (∀f,Chg w0 f []->Cl prog 30 #[.pointer (some ⟨xb,0,none⟩)] f fun e w'=>e= .returned (.agg #[.iface tx xx])/\Chg f w' []):=hZ fun f s=>IG F9 xb _ f ((P.o.trans s).keeps aJ) ⟨tx,xx,rfl⟩ (Q6 aI (P.o.trans s).size)
        have bh:Hid (∀f,Chg w0 f []->Cl prog 29 #[.agg #[.iface tr xr],.agg #[.iface tx xx]] f (BU true f)):=hZ fun f s=>
         XF _ x F1 F9 _ _ f (Q8 _) (Ar aE.o.fits).1 aE.o.good (Q.o.to (aB.o.trans s) (fun b r=>Q6 (G2.o b r) aA.o.size)) (aN.to (P.o.trans s) Q2.o) (fun b r=>Q6 (G2.o b r) (aA.o.trans (aB.o.trans s)).size) (fun b r=>Q6 (Q2.o b r) (P.o.trans s).size)
        have bj:Hid (∀f,Chg w0 f []->Cl prog 13 #[] f (BU true f)):=hZ fun f s=>ah.o f (az.o.trans s)
        clear ao aJ aI;refine wp_region_any (by kernel_rfl) ?_;change wpAny _ _ _ _ _ _ _ (World.drew _);rw[<-aG.o];refine Dg _ (PX (dp xb (.iface tr xr) (.iface tx xx)) w0) (by kernel_rfl) ?_ ?_ _ ?_
        .intro ii op a wa dd d O ck g ce c K z
         match ii,d with
         |0,d=>
          obtain rfl:=Q5 d;have bW:a.tmps.getD 12 undef= .nilIface:=O.at 12 (by kernel_rfl);rw[Qr (by simp[Region.wanted])];go_simp
          exact z _ _ (by simp) (c.put (by simp[dp]) cR)
         |1,d=>
          obtain rfl:=Q5 d;have bZ:a.tmps.getD 83 undef= .nilIface:=c.2 0 (g ⟨0,.data⟩ (by simp) rfl);rw[Qr (by simp[Region.wanted])];go_simp
          exact z _ _ (by simp) (c.put (by simp[dp]) cR)
         |2,d=>
          obtain rfl:=Q5 d;have b0:a.tmps.getD 84 undef= .bool true:=c.2 1 (g ⟨1,.data⟩ (by simp) rfl);rw[Qr (by simp[Region.wanted])];go_simp
          exact z _ _ (by simp) (c.put (by simp[dp]) cR)
         |3,d=>
          obtain rfl:=Q5 d;have bY:a.tmps.getD 14 undef= .nilIface:=O.at 14 (by kernel_rfl);rw[Qr (Cw rfl (by rfl) (c.2 2 (g ⟨2,.guard⟩ (by simp) rfl)))];go_simp
          exact z _ _ (by simp) (c.put (by simp[dp]) cR)
         |4,d=>
          obtain rfl:=Q5 d;have b2:a.tmps.getD 86 undef= .nilIface:=c.2 3 (g ⟨3,.data⟩ (by simp) rfl);rw[Qr (Cw rfl (by rfl) (c.2 2 (g ⟨2,.guard⟩ (by simp) rfl)))];go_simp
          exact z _ _ (by simp) (c.put (by simp[dp]) cR)
         |5,d=>
          obtain rfl:=Q5 d;have b1:a.tmps.getD 85 undef= .bool true:=c.2 2 (g ⟨2,.data⟩ (by simp) rfl);have b3:a.tmps.getD 87 undef= .bool true:=c.2 4 (g ⟨4,.data⟩ (by simp) rfl);rw[Qr (by simp[Region.wanted])];go_simp
          exact z _ _ (by simp) (c.put (by simp[dp]) cR)
         |6,d=>
          obtain rfl:=Q5 d;have b4:a.tmps.getD 88 undef= .bool true:=c.2 5 (g ⟨5,.data⟩ (by simp) rfl);rw[Qr (by simp[Region.wanted])];go_simp
          exact z _ _ (by simp) (c.put (by simp[dp]) cR)
         |7,d=>
          obtain rfl:=Q5 d;have bk:a.tmps.getD 11 undef= .pointer (some ⟨J.heap.size,0,none⟩):=O.at 11 (by kernel_rfl);rw[Qr (Cw rfl (by rfl) (c.2 6 (g ⟨6,.guard⟩ (by simp) rfl)))];refine Bd _ _ rfl _ bk 64 _ (be.o.kept c.1) _ underlying64 rfl D3 ?_;exact z _ _ (by simp) (c.put (by simp[dp]) cR)
         |8,d=>
          obtain rfl:=Q5 d;have bX:a.tmps.getD 13 undef= .pointer (some ⟨xb,0,none⟩):=O.at 13 (by kernel_rfl);rw[Qr (Cw rfl (by rfl) (c.2 6 (g ⟨6,.guard⟩ (by simp) rfl)))];go_simp
          exact z _ _ (by simp) (c.put (by simp[dp]) cR)
         |9,d=>
          obtain rfl:=Q5 d;have b7:a.tmps.getD 91 undef= .pointer (some ⟨xb,0,none⟩):=c.2 8 (g ⟨8,.data⟩ (by simp) rfl);rw[Qr (Cw rfl (by rfl) (c.2 6 (g ⟨6,.guard⟩ (by simp) rfl)))];go_simp
          go_at_call 30;refine(bf.o wa c.1).mono ?_;rintro e M ⟨rfl,N⟩;exact z _ _ (by simp) (c.put (by simp[dp]) N)
         |10,d=>
          obtain rfl:=Q5 d;have b6:a.tmps.getD 90 undef= .agg #[.iface tr xr]:=c.2 7 (g ⟨7,.data⟩ (by simp) rfl);have b8:a.tmps.getD 92 undef= .agg #[.iface tx xx]:=c.2 9 (g ⟨9,.data⟩ (by simp) rfl);rw[Qr (Cw rfl (by rfl) (c.2 6 (g ⟨6,.guard⟩ (by simp) rfl)))];go_simp
          go_at_call 29;refine(bh.o wa c.1).mono ?_;rintro e M ⟨rfl,N⟩;exact z _ _ (by simp) (c.put (by simp[dp]) N)
         |11,d=>
          obtain rfl:=Q5 d;have b5:a.tmps.getD 89 undef= .bool true:=c.2 6 (g ⟨6,.data⟩ (by simp) rfl);have b9:a.tmps.getD 93 undef= .bool true:=c.2 10 (g ⟨10,.data⟩ (by simp) rfl);rw[Qr (by simp[Region.wanted])];go_simp
          exact z _ _ (by simp) (c.put (by simp[dp]) cR)
         |12,d=>
          obtain rfl:=Q5 d;have ca:a.tmps.getD 94 undef= .bool true:=c.2 11 (g ⟨11,.data⟩ (by simp) rfl);rw[Qr (by simp[Region.wanted])];go_simp
          exact z _ _ (by simp) (c.put (by simp[dp]) cR)
         |13,d=>
          obtain rfl:=Q5 d;rw[Qr (Cw rfl (by rfl) (c.2 12 (g ⟨12,.guard⟩ (by simp) rfl)))];go_simp
          go_at_call 13;refine(bj.o wa c.1).mono ?_;rintro e M ⟨rfl,N⟩;exact z _ _ (by simp) (c.put (by simp[dp]) N)
         |14,d=>
          obtain rfl:=Q5 d;have cb:a.tmps.getD 95 undef= .bool true:=c.2 12 (g ⟨12,.data⟩ (by simp) rfl);have cc:a.tmps.getD 96 undef= .bool true:=c.2 13 (g ⟨13,.data⟩ (by simp) rfl);rw[Qr (by simp[Region.wanted])];go_simp
          exact z _ _ (by simp) (c.put (by simp[dp]) cR)
         |15,d=>
          obtain rfl:=Q5 d;have cd:a.tmps.getD 97 undef= .bool true:=c.2 14 (g ⟨14,.data⟩ (by simp) rfl);rw[Qr (by simp[Region.wanted])];go_simp
          exact z _ _ (by simp) (c.put (by simp[dp]) cR)
         |_+16,d=>exact absurd d (by simp)
        .intro a wR dd O hd c
         have S:a.tmps.getD 4 undef= .bool true:=c.2 15 (hd 15 (by decide));have bg:Hid (Chg w wR []):=hZ (E.o.trans (az.o.trans c.1));clear c hd aG;have T:=O.form' [83,84,85,86,87,88,89,90,91,92,93,94,95,96,97,4] (by kernel_rfl);have aK:=O.defers;obtain⟨A,df⟩:=a;clear O
         dsimp only at T aK S
         simp only[List.foldl_cons,List.foldl_nil]at T;rw[S]at T;obtain⟨u83,aO⟩:∃x,x=A.getD 83 undef:=⟨_,rfl⟩
         obtain⟨u84,aP⟩:∃x,x=A.getD 84 undef:=⟨_,rfl⟩
         obtain⟨u85,aQ⟩:∃x,x=A.getD 85 undef:=⟨_,rfl⟩
         obtain⟨u86,aR⟩:∃x,x=A.getD 86 undef:=⟨_,rfl⟩
         obtain⟨u87,aS⟩:∃x,x=A.getD 87 undef:=⟨_,rfl⟩
         obtain⟨u88,aT⟩:∃x,x=A.getD 88 undef:=⟨_,rfl⟩
         obtain⟨u89,aU⟩:∃x,x=A.getD 89 undef:=⟨_,rfl⟩
         obtain⟨u90,aV⟩:∃x,x=A.getD 90 undef:=⟨_,rfl⟩
         obtain⟨u91,aW⟩:∃x,x=A.getD 91 undef:=⟨_,rfl⟩
         obtain⟨u92,aX⟩:∃x,x=A.getD 92 undef:=⟨_,rfl⟩
         obtain⟨u93,aY⟩:∃x,x=A.getD 93 undef:=⟨_,rfl⟩
         obtain⟨u94,aZ⟩:∃x,x=A.getD 94 undef:=⟨_,rfl⟩
         obtain⟨u95,a0⟩:∃x,x=A.getD 95 undef:=⟨_,rfl⟩
         obtain⟨u96,a1⟩:∃x,x=A.getD 96 undef:=⟨_,rfl⟩
         obtain⟨u97,a2⟩:∃x,x=A.getD 97 undef:=⟨_,rfl⟩
         rw[<-aO,<-aP,<-aQ,<-aR,<-aS,<-aT,<-aU,<-aV,<-aW,<-aX,<-aY,<-aZ,<-a0,<-a1,<-a2]at T;clear aO aP aQ aR aS aT aU aV aW aX aY aZ a0 a1 a2 S;simp only[List.setIfInBounds_toArray,List.set_cons_zero,List.set_cons_succ]at T;subst T;subst aK;go_wp2_with fail
         go_ret
         exact⟨rfl,bg.o⟩
        .exact⟨Chg.refl _ _,fun _ e=>by cases e⟩
       .go_ret
        exact⟨rfl,E.o.trans H7.o⟩
     .have d1:((o.kind:Int) !=1)=true:=by simp;omega
      have d3:((o.kind:Int) !=3)=true:=by simp;omega
      clear Z;go_wp2_with fail
      refine ap.o.mono ?_;rintro e R ⟨F1,ay,rfl,V,W,X,_⟩;have D:=hZ X;have G1:=hZ V;have G2:=hZ W;clear V W X
      go_wp2_with(first
       |(refine Bp rfl _ _ rfl M.heap.size (by rfl) 29 cs (by exact ar.o.kept D.o) _ underlying29 rfl al.o ?_)
       |(go_at_call 19;refine(av.o R D.o).mono ?_;rintro e I ⟨rfl,G⟩;have L:Hid (Chg w2 I []):=hZ (D.o.trans G);have ae:=hZ G;have aF:=hZ (ax.o I L.o);clear G)
       |(refine wpList_load_mid rfl _ _ rfl ob (oo+m*4) (by go_num) _ _ aF.o underlying42 rfl (by rfl) ?_)
       |(refine Ae rfl _ _ _ rfl I.heap.size [.int .i64 o.kind,.string o.path,.string o.frm,.slice va o.steps.length vc] (by rfl) (by rfl) 42 _ (BD _ _ [.int .i64 0,.string ⟨#[]⟩,.string ⟨#[]⟩,.slice none 0 0] _ _ rfl rfl) (by rfl) rfl (bd.o _) ?_;intro C a3 ai Y;have ak:=hZ ai;have af:Hid (Chg R C []):=hZ (ae.o.trans (Chg.step (b:=_) (by exact cg cR) Y (fun i hi hl=>by simp at hi;omega)));have B:Hid (Chg w2 C []):=hZ (L.o.trans (Chg.step (b:=_) (by exact cg cR) Y (fun i hi hl=>by simp at hi;omega)));obtain⟨l6,f6,bA,bB,bC,bD⟩:=Ac.cells4 ak.o;clear a3 ai Y)
       |(go_at_call 13;refine(ah.o C B.o).mono ?_;rintro e J ⟨rfl,H⟩;have H7:Hid (Chg w2 J []):=hZ (B.o.trans H);clear H))
      go_ret
      exact⟨rfl,E.o.trans H7.o⟩
end
end Go.Proofs.YtkfnkppdhcaeoaaGreatDoor

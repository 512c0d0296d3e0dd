/- Part 22 of the proof of both cards. -/
import Derived.Test.YtpdnhfkacgdocaaGreatDoorM21
set_option maxRecDepth 100000
set_option maxHeartbeats 32000000
set_option linter.all false
namespace Go.Proofs.YtpdnhfkacgdocaaGreatDoor
open Go renaming Calls->Cl,Value->Vl,World->Wl
open Go.Value renaming agg->nA,int->nI,pointer->nP,slice->nS,string->nG,tuple->nT
open Go.IntKind renaming i64->nX
open Go.Ending renaming returned->nR
open Go.Obj renaming cells->nC
open Option renaming none->nN,some->nM
section
open _root_.Go.Proofs.Tryz
open Go Go.Shelf Go.RowKit Go.Lib Tree Ptr
theorem tg{t:Tr}{s:BY}{j:Nat}{w:Wl}{F:Nat->Prop}{cs:List Vl}(h:D6 t s=nM j)(a:AL w F t cs):∃u,(Ab t)[j]? =nM u:=by
 have d:j<(Ab t).length:=by
  cases t with
  |list l=>exact Jf h
  |obj ks l=>
   simp only[AL]at a;obtain⟨_,_,_,_,_,_,c,_⟩:=a;simp only[D6]at h;split at h
   .rename_i b;injection h with h
    subst h;show A5 ks s<l.length
    rw[<-c];exact Dk (Cp.1 b)
   .cases h
  |_=>cases h
 exact⟨_,Q9 d⟩
def se(F:Nat->Prop)(r:Option Tr)(n:Nat)(w:Wl)(e:Ending)(w':Wl):Prop:=(match r with
 |some u=>∃a:List Vl,e= nR (nT #[nA a.toArray,nI nX n])/\AL w' F u a
 |none=>∃k:Nat,k<n/\e= nR (nT #[nA zV.toArray,nI nX k]))/\Chg w w' []
theorem qS:∀u∈zV,u.oneCell'=true:=by
 intro u a;simp only[zV,Qh,List.not_mem_nil,or_false]at a;rcases a with rfl|rfl|rfl|rfl|rfl|rfl<;>rfl
theorem z1w{p:Prop}(h:p:=by exact cg cR):p:=h
theorem tA(t:Tr)(F:Nat->Prop)(cs:List Vl)(ts:List BY)(sl:Vl)(w:Wl)(c:AL w F t cs)(hF:∀b,F b->b<w.heap.size)(T:Bt t)(hT:As w sl 1 ts.length (Ad ts))(hn:ts.length<=65536)(aw:∀s∈ts,s.size<=16777216):
  Cl prog 84 #[nA cs.toArray,sl] w (se F (Ah t ts) ts.length w):=by
 obtain⟨ta,tc,rfl,_⟩:=hT.form;obtain⟨n,ah⟩:=Ue ts.length;have HN:=hZ ah;rw[<-ah]at hT hn|-;have HT:=hZ hT;have I:=hZ hF;have ax:=E7 c;obtain⟨w0,V⟩:=Ue ((w.alloc (nC cs.toArray 29)).alloc (nC zV.toArray 29));have H0:Hid (Chg w w0 []):=by rw[V];exact hZ (((Chg.refl w []).alloc _).alloc _)
 have HA:Hid (Ac w0 w.heap.size cs 29):=by rw[V];exact hZ ((Ac.new w _ _).alloc _)
 have HR:Hid (Ac w0 (w.heap.size+1) zV 29):=by rw[V];exact hZ (BD _ _ zV _ _ rfl Zh)
 have HV:=UD (AL w0 F t cs) (AL.kept (H0.o.keepsF hF) (fun _ h=>h) _ _ c);have am:=hZ T;have aI:=hZ aw;obtain⟨c0,c1,c2,c3,c4,c5,rfl⟩:=kt ax.2;clear hT hF c T ah ax aw;go_enter func84,ntmps84;go_wp2_with fail;change Code.wp _ _ _ _ ((w.alloc (nC [c0,c1,c2,c3,c4,c5].toArray 29)).alloc (nC zV.toArray 29));rw[<-V];clear V;obtain⟨A,P⟩:=Ue w.heap.size;obtain⟨R,S⟩:=Ue (w.heap.size+1);have H:=UD (w.heap.size<=A/\A<R) ⟨Zj,Zj⟩;rw[<-S]at HR|-;rw[<-P]at HA|-;clear P S;go_loopw [6] (fun v6 wr=>∃(i:Nat) (u:Tr) (ds:List Vl),i<=n/\v6= nI nX i/\Ac wr A ds 29/\Ac wr R zV 29/\AL wr F u ds/\Bt u/\Ah t ts=Ah u (ts.drop i)/\Chg w wr []) (fun v6 _=>n-(intOf v6).toNat)
 case atStart=>exact⟨0,t,_,Zj,rfl,HA.o,HR.o,HV.o,am.o,rfl,H0.o⟩
 case round=>
  obtain⟨i,u,ds,hi,rfl,P,S,c,T,hl,hc⟩:=hrel;have ad:=hZ P;have af:=hZ S;have M:=hZ c;have an:=hZ T;have HL:=hZ hl;have m:=hZ hc;have ae:=UD ((prog.info? 29).map (·.size)=nM ds.length) (by rw[(E7 c).2];exact A9);have aE:=hZ (E7 c).1;have HZ:=UD (zV.length=ds.length) (by rw[(E7 c).2];rfl);clear P S c T hl hc HV am HA HR H0;by_cases aS:i<n
  .obtain⟨s,hs⟩:∃s,ts[i]? =nM s:=⟨_,Q9 (by have:=HN.o;omega)⟩
   have aq:ts.drop i=s::ts.drop (i+1):=by
    obtain⟨a,h2⟩:=Qc.1 hs;rw[List.drop_eq_getElem_cons a,h2]
   have al:=hZ aq;obtain⟨b,o,rfl,ap⟩:=HT.o.get (i:=i) (v:= nG s) (by simp[Ad,hs]);have J:=m.o.keeps ap;obtain⟨Z,d1,d2,d3,d4,d5,rfl⟩:=kt (E7 M.o).2;obtain⟨xl,xf,B,C,D,E,g,G⟩:=ad.o.cells6
   have L:=UD (∀Y,Chg wr Y []->Cl prog 114 #[nA #[Z,d1,d2,d3,d4,d5],nG s] Y fun e w'=>e= nR (nI nX (tG u s))/\Chg Y w' []) fun Y hx=>
    t6 u F _ s Y (AL.kept (hx.keepsF (fun b r=>Q6 (I.o b r) m.o.size)) (fun _ h=>h) _ _ M.o) (fun b r=>Q6 (I.o b r) (m.o.trans hx).size) (by have:=an.o.many;omega) (aI.o s (Qi hs))
   clear aq ap hs;cases z:D6 u s with
   |none=>
    have N:tG u s= -1:=by unfold tG;rw[z]
    have aB:=UD (Ah t ts=nN) (by rw[HL.o,al.o];show(Dy u s).bind _=nN;unfold Dy;rw[z];rfl);rw[N]at L;clear N z;go_upto_region 4 with(fail)
    go_region_held3(fun w'=>w'.cell? ⟨A,0,nN⟩=nM Z/\w'.cell? ⟨A,1,nN⟩=nM d1/\w'.cell? ⟨A,2,nN⟩=nM d2/\w'.cell? ⟨A,3,nN⟩=nM d3/\w'.cell? ⟨A,4,nN⟩=nM d4/\w'.cell? ⟨A,5,nN⟩=nM d5/\w'.cell? ⟨b,o+i,nN⟩=nM (nG s)) (first|exact⟨B,C,D,E,g,G,J⟩|exact⟨a.keeps B,a.keeps C,a.keeps D,a.keeps E,a.keeps g,a.keeps G,a.keeps J⟩)
     ((go_at_call 114;refine(L.o _ z1w).mono ?_;rintro e w1 ⟨rfl,O⟩;have a:Chg wr w1 []:=ct cR O;clear O))
    have k:=hZ a;clear a B C D E g G xl xf J;have aF:=hZ (af.o.kept k.o);go_wp2_with(refine uO aF.o qS ?_;intro w3 K l);refine bodyPost_ret (uS K.o) rfl ?_;unfold se;rw[aB.o];exact⟨⟨i,Zj,rfl⟩,(m.o.trans k.o).fresh l.o (fun y f=>by have:=H.o;simp at f;omega)⟩
   |some j=>
    have N:tG u s=j:=by unfold tG;rw[z]
    obtain⟨v,c⟩:=tg z M.o;have aC:=UD (Ah t ts=Ah v (ts.drop (i+1))) (by rw[HL.o,al.o];exact rt z c);have au:Bt v:=gd an.o (Qi c);have az:=hZ au;obtain⟨la,lc,ka,kc,xs,d,_,av,ay,_⟩:=M.o.uni;obtain⟨W,X,aQ,aR,aO,aP,aN,ab,ag⟩:=AL.kid av ay c;subst aN;have hj:j<(Ab u).length:=(Qc.1 c).1;injection d with q0 d;injection d with q1 d;injection d with q2 d;injection d with q3 d;injection d with q4 d;injection d with q5 d
    clear q0 q1 q2 q3 q5;subst q4;rw[N]at L;obtain⟨p,ar⟩:=Ue (vC (Aa v).sort (Aa v).flag (Aa v).bits (Aa v).text (nS aQ (Ab v).length aR) (nS aO (Aa v).keys.length aP));rw[<-ar]at ab ag;obtain⟨un,ai⟩:=Ue ((Ab u).length);rw[<-ai]at hj g L;have aJ:=hZ ai;have aK:=hZ ab;have aG:=UD (wr.rangeAt W (X+j*6) p) fun q x hq=>ag q x hq;have aa:=E7 ab;have ao:=UD ((prog.info? 29).map (·.size)=nM p.length) (by rw[aa.2];exact A9);have aD:=hZ aa.1;have aA:=UD (6=p.length) aa.2.symm;clear N z c au av ay ab ag d ar ai aa;go_upto_region 4 with(fail)
    go_region_held3(fun w'=>w'.cell? ⟨A,0,nN⟩=nM Z/\w'.cell? ⟨A,1,nN⟩=nM d1/\w'.cell? ⟨A,2,nN⟩=nM d2/\w'.cell? ⟨A,3,nN⟩=nM d3/\w'.cell? ⟨A,4,nN⟩=nM (nS (nM ⟨W,X,nN⟩) un lc)/\w'.cell? ⟨A,5,nN⟩=nM d5/\w'.cell? ⟨b,o+i,nN⟩=nM (nG s)) (first|exact⟨B,C,D,E,g,G,J⟩|exact⟨a.keeps B,a.keeps C,a.keeps D,a.keeps E,a.keeps g,a.keeps G,a.keeps J⟩)
     ((go_at_call 114;refine(L.o _ z1w).mono ?_;rintro e w1 ⟨rfl,O⟩;have a:Chg wr w1 []:=ct cR O;clear O))
    have k:=hZ a;clear B C D E g G xl xf J;have ak:=hZ (ad.o.kept k.o);obtain⟨xl,xf,B,C,D,E,g,G⟩:=ak.o.cells6;rw[<-aJ.o]at g;have aH:=UD (w1.rangeAt W (X+j*6) p) fun q x hq=>k.o.keeps (aG.o q x hq)
    go_wp2_with(first
     |(refine wpList_load_mid rfl _ _ rfl W (X+j*6) ZN p _ aH.o underlying29 rfl ao.o ?_)
     |(refine Ae rfl _ _ _ rfl A p ZN ZN 29 [Z,d1,d2,d3,nS (nM ⟨W,X,nN⟩) (Ab u).length lc,d5] (by exact ak.o) ao.o aA.o aD.o ?_;intro w3 aj Q U;have K:=hZ Q;have l:=hZ U;clear aj Q U))
    go_roundw
    case rel=>
     have aT:A≠R:=by have:=H.o;omega
     have aM:∀y,y∈[A]->¬F y:=fun y f r=>by have a:=I.o y r;have h2:=H.o;simp at f;omega
     exact⟨i+1,v,p,Zj,by go_num,K.o,(af.o.kept k.o).kept l.o (by simp;omega),AL.kept (((k.o.none [A]).trans l.o).keepsF (fun y f=>Q6 (I.o y f) m.o.size) aM) (fun _ h=>h) _ _ aK.o,az.o,aC.o,(m.o.trans k.o).fresh l.o (fun y f=>by have:=H.o;simp at f;omega)⟩
    case measure=>simp[intOf];omega
  .obtain rfl:i=n:=by omega
   have aL:=UD (Ah t ts=nM u) (by rw[HL.o,List.drop_eq_nil_of_le (by have:=HN.o;omega)];rfl)
   go_wp2_with(first
    |(refine Bp rfl _ _ rfl A ZN 29 ds (by exact ad.o) _ underlying29 rfl ae.o ?_)
    |(refine Ae rfl _ _ _ rfl R ds ZN ZN 29 zV (by exact af.o) ae.o HZ.o aE.o ?_;intro w3 aj Q U;have K:=hZ Q;have l:=hZ U;clear aj Q U))
   refine bodyPost_ret (Gn rfl _ _ R 29 ds _ rfl K.o underlying29 rfl ae.o) rfl ?_;unfold se;rw[aL.o];exact⟨⟨ds,rfl,AL.kept (l.o.keepsF (fun y f=>Q6 (I.o y f) m.o.size) (fun y f r=>by have a:=I.o y r;have h2:=H.o;simp at f;omega)) (fun _ h=>h) _ _ M.o⟩,m.o.fresh l.o (fun y f=>by have:=H.o;simp at f;omega)⟩
def pG(F:Nat->Prop)(r:Option Tr)(w:Wl)(e:Ending)(w':Wl):Prop:=(match r with
 |some u=>∃a:List Vl,e= nR (nT #[nA a.toArray,.bool true])/\AL w' F u a
 |none=>e= nR (nT #[nA zV.toArray,.bool false]))/\Chg w w' []
theorem pK(t:Tr)(F:Nat->Prop)(cs:List Vl)(ts:List BY)(Y:Vl)(w:Wl)(c:AL w F t cs)(q:∀b,F b->b<w.heap.size)(U:Bt t)(J:As w Y 1 ts.length (Ad ts))(V:ts.length<=65536)(r:∀s∈ts,s.size<=16777216):
  Cl prog 44 #[nA cs.toArray,Y] w (pG F (Ah t ts) w):=by
 obtain⟨ta,tc,rfl,_⟩:=J.form;have p:=UD (∀l,Chg w l []->Cl prog 84 #[nA cs.toArray,nS ta ts.length tc] l (se F (Ah t ts) ts.length l)) fun l M=>tA t F cs ts _ l (AL.kept (M.keepsF q) (fun _ h=>h) _ _ c) (fun b i=>Q6 (q b i) M.size) U (J.kept M) V r;obtain⟨n,W⟩:=Ue ts.length;have L:=E7 c;rw[<-W]at V p|-;have O:=hZ q;obtain⟨w0,j⟩:=Ue ((w.alloc (nC cs.toArray 29)).alloc (nC zV.toArray 29));have g:Hid (Chg w w0 []):=by rw[j];exact hZ (((Chg.refl w []).alloc _).alloc _)
 have v:Hid (Ac w0 w.heap.size cs 29):=by rw[j];exact hZ ((Ac.new w _ _).alloc _)
 have D:Hid (Ac w0 (w.heap.size+1) zV 29):=by rw[j];exact hZ (BD _ _ zV _ _ rfl Zh)
 have P:=UD ((prog.info? 29).map (·.size)=nM cs.length) (by rw[L.2];exact A9);obtain⟨H,c1,I,c3,c4,c5,rfl⟩:=kt L.2;clear J q c U W L r;obtain⟨R,X⟩:=Ue (Ah t ts);rw[<-X]at p|-;clear X;go_enter func44,ntmps44;go_upto_region 1 with(fail);change Code.wp _ _ _ _ ((w.alloc (nC [H,c1,I,c3,c4,c5].toArray 29)).alloc (nC zV.toArray 29));rw[<-j];clear j;obtain⟨A,S⟩:=Ue w.heap.size
 obtain⟨B,T⟩:=Ue (w.heap.size+1);have x:=UD (w.heap.size<=A/\A<B) ⟨Zj,Zj⟩;rw[<-T]at D|-;rw[<-S]at v|-;clear S T;cases R with
 |none=>
  go_wp2_with(first
   |(refine Bp rfl _ _ rfl A ZN 29 [H,c1,I,c3,c4,c5] (by exact v.o) _ underlying29 rfl P.o ?_)
   |(go_at_call 84;refine(p.o _ g.o).mono ?_;rintro e N ⟨⟨k,hk,rfl⟩,a⟩;have m:=hZ a;have ab:((k:Int)==(n:Int))=false:=Qq.2 Zj;have E:=hZ (D.o.kept a);clear a hk)
   |(refine kM N qS ?_;intro Z z f;have G:=hZ (E.o.kept f.o))
   |(refine uN z.o ?_)
   |(refine uO G.o qS ?_;intro w5 C o))
  refine bodyPost_ret (uS C.o) rfl ?_;exact⟨rfl,((g.o.trans m.o).trans f.o).fresh o.o (fun y d=>by have:=x.o;simp at d;omega)⟩
 |some u=>
  go_wp2_with(first
   |(refine Bp rfl _ _ rfl A ZN 29 [H,c1,I,c3,c4,c5] (by exact v.o) _ underlying29 rfl P.o ?_)
   |(go_at_call 84;refine(p.o _ g.o).mono ?_;rintro e N ⟨⟨aa,K,c⟩,a⟩;obtain⟨d0,d1,d2,d3,d4,d5,rfl⟩:=kt (E7 c).2;have K:e= nR (nT #[nA #[d0,d1,d2,d3,d4,d5],nI nX n]):=K;subst K;have HV:=hZ c;have m:=hZ a;have E:=hZ (D.o.kept a);have Q:=hZ (E7 c).1;clear a c)
   |(refine kM N Q.o ?_;intro Z z f;have G:=hZ (E.o.kept f.o))
   |(refine uN z.o ?_)
   |(refine uO G.o Q.o ?_;intro w5 C o))
  refine bodyPost_ret (uS C.o) rfl ?_;have r:Chg w Z []:=(g.o.trans m.o).trans f.o;have i:∀y,y∈[B]->¬F y:=fun y d i=>by have a:=O.o y i;have h2:=x.o;simp at d;omega
  exact⟨⟨_,rfl,AL.kept (((f.o.none [B]).trans o.o).keepsF (fun y d=>Q6 (O.o y d) (g.o.trans m.o).size) i) (fun _ h=>h) _ _ HV.o⟩,r.fresh o.o (fun y d=>by have:=x.o;simp at d;omega)⟩
end
section
open Go Go.Shelf Go.RowKit Go.Lib Tree Ptr
variable{b:Bool}{cs:List Vl}{c:Nat}{d:Nat->Bool}{F:Nat->Prop}{f:Nat->Vl}{V:Nat->Vl->Prop}{R r:Option Tr}{p:Prop}{y:Vl}{e g j w w':Wl}
def sq(F:Nat->Prop)(r:Option Tr)(cs:List Vl)(b:Bool)(w:Wl):Prop:=match r with
 |some u=>b=true/\AL w F u cs
 |none=>b=false/\cs=zV
theorem sq.kept(h:sq F r cs b w)(a:BZ F w w'):sq F r cs b w':=by
 cases r with
 |none=>exact h
 |some u=>exact⟨h.1,AL.kept a (fun _ h=>h) _ _ h.2⟩
theorem sq.one(h:sq F r cs b w):(∀u∈cs,u.oneCell'=true)/\cs.length=6:=by
 cases r with
 |none=>obtain⟨_,rfl⟩:=h;exact⟨qS,rfl⟩
 |some u=>exact E7 h.2
theorem pG.tell{e:Ending}(h:pG F r w e w'):∃cs b,e= nR (nT #[nA cs.toArray,.bool b])/\sq F r cs b w'/\Chg w w' []:=by
 cases r with
 |none=>exact⟨zV,false,h.1,⟨rfl,rfl⟩,h.2⟩
 |some u=>obtain⟨⟨cs,a,c⟩,d⟩:=h;exact⟨cs,true,a,⟨rfl,c⟩,d⟩
structure uD(c:Nat)(F:Nat->Prop)(R:Option Tr)(V:Nat->Vl->Prop)(w4:Wl)(d:Nat->Bool)(f:Nat->Vl)(w:Wl):Prop where
 chg:Chg w4 w []
 vals:∀j,j<c->d j=true->V j (f j)
 call:d c=true->∃cs b,f c= nT #[nA cs.toArray,.bool b]/\sq F R cs b w
 mv:d (c+1)=true->d c=true/\f (c+1)=f c
 x0:d (c+2)=true->d c=true/\∀cs b,f c= nT #[nA cs,.bool b]->f (c+2)= nA cs
 x1:d (c+3)=true->d c=true/\∀cs b,f c= nT #[nA cs,.bool b]->f (c+3)= .bool b
 bx:d (c+4)=true->∃g es,f (c+4)= nP (nM ⟨g,0,nN⟩)/\w4.heap.size<=g/\Ac w g es 29/\es.length=6/\(d (c+5)=true->f (c+2)= nA es.toArray)
 st:d (c+5)=true->d (c+2)=true/\d (c+4)=true
 asg:d (c+6)=true->d (c+3)=true/\f (c+6)=f (c+3)
theorem uD.start(c:Nat)(F:Nat->Prop)(R:Option Tr)(V:Nat->Vl->Prop)(a:Wl)(f:Nat->Vl)(w:Wl)(h:Chg a w []):uD c F R V a (fun _=>false) f w:=
 ⟨h,fun _ _ h=>(by cases h),fun h=>(by cases h),fun h=>(by cases h),fun h=>(by cases h),fun h=>(by cases h),fun h=>(by cases h),fun h=>(by cases h),fun h=>(by cases h)⟩
theorem uD.put{j:Nat}(h:uD c F R V g d f w)(l:j<c)(i:V j y):uD c F R V g (BA d j) (Eb f j y) w:=by
 have e:∀k:Nat,c<=k->BA d j k=d k/\Eb f j y k=f k:=fun k b=>⟨An d Zj,AA f y Zj⟩;refine⟨h.chg,fun k b a=> ?_, ?_, ?_, ?_, ?_, ?_, ?_, ?_⟩
 .by_cases e:k=j
  .subst e;rw[Bf];exact i
  .rw[AA f y e];rw[An d e]at a;exact h.vals k b a
 all_goals simp only[(e c Zj).1,(e c Zj).2,(e (c+1) Zj).1,(e (c+1) Zj).2,(e (c+2) Zj).1,(e (c+2) Zj).2,(e (c+3) Zj).1,(e (c+3) Zj).2,(e (c+4) Zj).1,(e (c+4) Zj).2,(e (c+5) Zj).1,(e (c+6) Zj).1,(e (c+6) Zj).2]
 .exact h.call
 .exact h.mv
 .exact h.x0
 .exact h.x1
 .exact h.bx
 .exact h.st
 .exact h.asg
theorem uD.putC{o:Wl}(h:uD c F R V o d f w)(i:d c=false)(j:Chg w w' [])(v:sq F R cs b w'):uD c F R V o (BA d c) (Eb f c (nT #[nA cs.toArray,.bool b])) w':=by
 have x:d (c+1)=false:=by cases e:d (c+1)with|false=>rfl|true=>have:=(h.mv e).1;rw[i]at this;cases this
 have l:d (c+2)=false:=by cases e:d (c+2)with|false=>rfl|true=>have:=(h.x0 e).1;rw[i]at this;cases this
 have m:d (c+3)=false:=by cases e:d (c+3)with|false=>rfl|true=>have:=(h.x1 e).1;rw[i]at this;cases this
 have n:d (c+5)=false:=by cases e:d (c+5)with|false=>rfl|true=>have:=(h.st e).1;rw[l]at this;cases this
 have y:d (c+6)=false:=by cases e:d (c+6)with|false=>rfl|true=>have:=(h.asg e).1;rw[m]at this;cases this
 refine⟨h.chg.trans j,fun k u a=> ?_,fun _=> ?_,fun a=> ?_,fun a=> ?_,fun a=> ?_,fun a=> ?_,fun a=> ?_,fun a=> ?_⟩
 .rw[AA f _ Zj];rw[An d Zj]at a;exact h.vals k u a
 .rw[Bf];exact⟨cs,b,rfl,v⟩
 .rw[An d Zj,x]at a;cases a
 .rw[An d Zj,l]at a;cases a
 .rw[An d Zj,m]at a;cases a
 .rw[An d Zj]at a;obtain⟨g,t,p,q,r,s,z⟩:=h.bx a;refine⟨g,t,by rw[AA f _ Zj];exact p,q,r.kept j,s,fun a=> ?_⟩;rw[An d Zj,n]at a;cases a
 .rw[An d Zj,n]at a;cases a
 .rw[An d Zj,y]at a;cases a
theorem z1n(h:p:=by rw[An d Zj]at a|-;rw[AA f _ Zj,AA f _ Zj];exact h.x0 a):p:=h
theorem z1o(h:p:=by rw[An d Zj]at a|-;rw[AA f _ Zj,AA f _ Zj];exact h.x1 a):p:=h
theorem z1r(h:p:=by rw[An d Zj]at a;rw[An d Zj,AA f _ Zj,AA f _ Zj];exact h.asg a):p:=h
theorem z1t(h:p:=by rw[An d Zj]at a;rw[An d Zj,AA f _ Zj,AA f _ Zj];exact h.bx a):p:=h
theorem z1u(h:p:=by rw[An d Zj]at a;rw[An d Zj,An d Zj];exact h.st a):p:=h
theorem uD.putM(h:uD c F R V e d f w)(b:d c=true):uD c F R V e (BA d (c+1)) (Eb f (c+1) (f c)) w:=by
 refine⟨h.chg,fun k g a=> ?_,fun a=> ?_,fun a=> ?_,fun a=> ?_,fun a=> ?_,fun a=> ?_,fun a=> ?_,fun a=> ?_⟩
 .rw[AA f _ Zj];rw[An d Zj]at a;exact h.vals k g a
 .rw[AA f _ Zj];exact h.call b
 .rw[An d Zj,Bf,AA f _ Zj];exact⟨b,rfl⟩
 .exact z1n
 .exact z1o
 .exact z1t
 .exact z1u
 .exact z1r
theorem z1p(h:p:=by rw[An d Zj]at a|-;rw[AA f _ Zj,AA f _ Zj];exact h.mv a):p:=h
theorem uD.putX0{m:Wl}(h:uD c F R V m d f w)(j:d c=true)(u:d (c+2)=false)(s:f c= nT #[nA cs.toArray,.bool b]):uD c F R V m (BA d (c+2)) (Eb f (c+2) (nA cs.toArray)) w:=by
 have l:d (c+5)=false:=by cases e:d (c+5)with|false=>rfl|true=>have:=(h.st e).1;rw[u]at this;cases this
 refine⟨h.chg,fun k t a=> ?_,fun a=> ?_,fun a=> ?_,fun a=> ?_,fun a=> ?_,fun a=> ?_,fun a=> ?_,fun a=> ?_⟩
 .rw[AA f _ Zj];rw[An d Zj]at a;exact h.vals k t a
 .rw[AA f _ Zj];exact h.call j
 .exact z1p
 .rw[An d Zj,Bf,AA f _ Zj];refine⟨j,fun ds v i=> ?_⟩;rw[s]at i;injection i with i
  injection i with i
  injection i with i
 .exact z1o
 .rw[An d Zj]at a;obtain⟨g,r,n,o,p,q,x⟩:=h.bx a;refine⟨g,r,by rw[AA f _ Zj];exact n,o,p,q,fun a=> ?_⟩;rw[An d Zj,l]at a;cases a
 .rw[An d Zj,l]at a;cases a
 .exact z1r
theorem uD.putX1(h:uD c F R V j d f w)(i:d c=true)(n:d (c+3)=false)(l:f c= nT #[nA cs.toArray,.bool b]):uD c F R V j (BA d (c+3)) (Eb f (c+3) (.bool b)) w:=by
 have o:d (c+6)=false:=by cases e:d (c+6)with|false=>rfl|true=>have:=(h.asg e).1;rw[n]at this;cases this
 refine⟨h.chg,fun k m a=> ?_,fun a=> ?_,fun a=> ?_,fun a=> ?_,fun a=> ?_,fun a=> ?_,fun a=> ?_,fun a=> ?_⟩
 .rw[AA f _ Zj];rw[An d Zj]at a;exact h.vals k m a
 .rw[AA f _ Zj];exact h.call i
 .exact z1p
 .exact z1n
 .rw[An d Zj,Bf,AA f _ Zj];refine⟨i,fun ds p g=> ?_⟩;rw[l]at g;injection g with g
  injection g with g
  injection g with q g
  injection g with g
 .exact z1t
 .exact z1u
 .rw[An d Zj,o]at a;cases a
theorem uD.putB(h:uD c F R V g d f w)(m:∀b,F b->b<g.heap.size)(p:d (c+4)=false):uD c F R V g (BA d (c+4)) (Eb f (c+4) (nP (nM ⟨w.heap.size,0,nN⟩))) (w.alloc (nC zV.toArray 29)):=by
 have i:d (c+5)=false:=by cases e:d (c+5)with|false=>rfl|true=>have:=(h.st e).2;rw[p]at this;cases this
 refine⟨h.chg.alloc _,fun k o a=> ?_,fun a=> ?_,fun a=> ?_,fun a=> ?_,fun a=> ?_,fun a=> ?_,fun a=> ?_,fun a=> ?_⟩
 .rw[AA f _ Zj];rw[An d Zj]at a;exact h.vals k o a
 .rw[An d Zj]at a;rw[AA f _ Zj];obtain⟨cs,b,j,l⟩:=h.call a;exact⟨cs,b,j,l.kept (((Chg.refl w []).alloc _).keepsF (fun b n=>Q6 (m b n) h.chg.size))⟩
 .exact z1p
 .exact z1n
 .exact z1o
 .rw[Bf];exact⟨w.heap.size,zV,rfl,h.chg.size,Ac.new _ _ _,rfl,fun a=>by rw[An d Zj,i]at a;cases a⟩
 .rw[An d Zj,i]at a;cases a
 .exact z1r
theorem uD.putS{g:Nat}(h:uD c F R V e d f w)(l:∀b,F b->b<e.heap.size)(q:d (c+2)=true)(r:d (c+4)=true)(u:f (c+4)= nP (nM ⟨g,0,nN⟩))(x:f (c+2)= nA cs.toArray)(s:cs.length=6)(t:Ac w' g cs 29)(m:Chg w w' [g])(n:e.heap.size<=g):uD c F R V e (BA d (c+5)) (Eb f (c+5) y) w':=by
 refine⟨h.chg.fresh m (fun z j=>by obtain rfl:z=g:=List.mem_singleton.1 j;exact n),fun k v a=> ?_,fun a=> ?_,fun a=> ?_,fun a=> ?_,fun a=> ?_,fun a=> ?_,fun a=> ?_,fun a=> ?_⟩
 .rw[AA f _ Zj];rw[An d Zj]at a;exact h.vals k v a
 .rw[An d Zj]at a;rw[AA f _ Zj];obtain⟨ds,b,o,p⟩:=h.call a;exact⟨ds,b,o,p.kept (m.keepsF (fun b i=>Q6 (l b i) h.chg.size) (fun z j i=>by obtain rfl:z=g:=List.mem_singleton.1 j;have:=l z i;omega))⟩
 .exact z1p
 .exact z1n
 .exact z1o
 .rw[AA f _ Zj,AA f _ Zj];exact⟨g,cs,u,n,t,s,fun _=>x⟩
 .rw[An d Zj,An d Zj];exact⟨q,r⟩
 .exact z1r
theorem uD.putA{b:Wl}(h:uD c F R V b d f w)(e:d (c+3)=true):uD c F R V b (BA d (c+6)) (Eb f (c+6) (f (c+3))) w:=by
 refine⟨h.chg,fun k g a=> ?_,fun a=> ?_,fun a=> ?_,fun a=> ?_,fun a=> ?_,fun a=> ?_,fun a=> ?_,fun a=> ?_⟩
 .rw[AA f _ Zj];rw[An d Zj]at a;exact h.vals k g a
 .rw[An d Zj]at a;rw[AA f _ Zj];exact h.call a
 .exact z1p
 .exact z1n
 .exact z1o
 .exact z1t
 .exact z1u
 .rw[An d Zj,Bf,AA f _ Zj];exact⟨e,rfl⟩
theorem uD.fin(h:uD c F R V j d f w)(q:d (c+4)=true)(i:d (c+5)=true)(r:d (c+6)=true):∃cs b g,f (c+4)= nP (nM ⟨g,0,nN⟩)/\f (c+6)= .bool b/\j.heap.size<=g/\Ac w g cs 29/\sq F R cs b w:=by
 obtain⟨p,k⟩:=h.asg r;obtain⟨o,n⟩:=h.x1 p;obtain⟨cs,b,e,u⟩:=h.call o;obtain⟨g,m,l,t,s,_,a⟩:=h.bx q;have a:=a i;have:=(h.x0 (h.st i).1).2 _ _ e;rw[a]at this;injection this with this
 obtain rfl:=List.toArray_inj this;exact⟨m,b,g,l,by rw[k];exact n _ _ e,t,s,u⟩
end
section
open _root_.Go.Proofs.Tryz
open Go Go.Shelf Go.RowKit Go.Lib Tree Ptr
variable{s:BY}{ks:List BY}{i:Nat}{p:Prop}
structure qZ(a b:Tr):Prop where
 sort:(Aa a).sort=(Aa b).sort
 flag:(Aa a).flag=(Aa b).flag
 bits:(Aa a).bits=(Aa b).bits
 text:(Aa a).text=(Aa b).text
theorem ue{a b:Tr}(h:qZ a b)(g:(Aa a).keys=(Aa b).keys)(hi:Ab a=Ab b):a=b:=by
 obtain⟨c,d,e,f⟩:=h;cases a<;>cases b<;>simp_all[Aa,Ab]
theorem pZ{w:Wl}{F:Nat->Prop}{t u:Tr}{f:Option Addr}{xs:List Vl}(g:LP w F f xs)(j:Aq w F (Ab t) xs)(h:(Ab t)[i]? =nM u):
  ∃b o c c1 d c3 c4 c5,f=nM ⟨b,o,nN⟩/\AL w F u [c,c1,d,c3,c4,c5]/\w.cell? ⟨b,o+i*6,nN⟩=nM c/\w.cell? ⟨b,o+i*6+1,nN⟩=nM c1/\w.cell? ⟨b,o+i*6+2,nN⟩=nM d/\w.cell? ⟨b,o+i*6+3,nN⟩=nM c3/\w.cell? ⟨b,o+i*6+4,nN⟩=nM c4/\w.cell? ⟨b,o+i*6+5,nN⟩=nM c5:=by
 obtain⟨b,o,n,p,l,m,e,k,a⟩:=AL.kid g j h;exact⟨b,o,_,_,_,_,_,_,e,k,by have:=a 0 _ rfl;rwa[Nat.add_zero]at this,a 1 _ rfl,a 2 _ rfl,a 3 _ rfl,a 4 _ rfl,a 5 _ rfl⟩
theorem z1l(h:p:=by go_wp2_with fail;go_ret;exact⟨Bo d.o.symm,t.o⟩):p:=h
theorem z1q(h:p:=by rw[Lib.toList_data,Lib.toList_data]at e;exact ByteArray.ext (Array.toList_inj.1 e)):p:=h
theorem z1v(h:p:=by obtain⟨b,o,e,_,C⟩:=ag i (nG k) (by simp[Ad,hk]);exact⟨b,o,e,t.o.keeps C⟩):p:=h
theorem tz:∀(k:Nat) (a b:Tr) (F:Nat->Prop) (cs ds:List Vl) (w:Wl),(Ag a).nodes<=k->AL w F a cs->AL w F b ds->(∀x,F x->x<w.heap.size)->Bt a->Bt b->
  Cl prog 46 #[nA cs.toArray,nA ds.toArray] w (BU (BQ a b) w):=by
 intro k;induction k with
 |zero=>intro a _ _ _ _ _ h;have:=Cv a;omega
 |succ k ih=>
  intro a b F cs ds w hk ha hb hF aA aK
  have aV:=UD (∀(i:Nat) (x y:Tr) (xs ys:List Vl) (D:Wl),(Ab a)[i]? =nM x->(Ab b)[i]? =nM y->Chg w D []->AL w F x xs->AL w F y ys->Cl prog 46 #[nA xs.toArray,nA ys.toArray] D (BU (BQ x y) D)) fun i x y xs ys D f s C c O=>by
   have:=CO f;exact ih x y F xs ys D Zj (AL.kept (C.keepsF hF) (fun _ h=>h) _ _ c) (AL.kept (C.keepsF hF) (fun _ h=>h) _ _ O) (fun z hz=>Q6 (hF z hz) C.size) (gd aA (Qi f)) (gd aK (Qi s))
  obtain⟨la,lc,ka,kc,xs,rfl,aN,aL,aP,_⟩:=ha.uni;obtain⟨lb,ak,kb,aD,ys,rfl,aO,aM,aQ,_⟩:=hb.uni;have aB:=aA.many;have ai:=rj ha;have HA:=hZ aN;have HB:=hZ aO;have aX:=hZ aL;have aY:=hZ aM;have aZ:=hZ aP;have a4:=hZ aQ;have u:=UD ((qZ a b->(Aa a).keys=(Aa b).keys->Ab a=Ab b->False)->BQ a b=false) fun h=>XI fun e=>by subst e;exact h ⟨rfl,rfl,rfl,rfl⟩ rfl rfl
  have ap:=UD (qZ a b->(Aa a).keys=(Aa b).keys->Ab a=Ab b->BQ a b=true) fun c O h3=>Vz (ue c O h3);obtain⟨R,d⟩:=Ue (BQ a b);rw[<-d]at u ap|-;have HQ:=UD (qZ a b↔((Aa a).sort:Int)=(Aa b).sort/\(Aa a).flag=(Aa b).flag/\((Aa a).bits:Int)=(Aa b).bits/\(Aa a).text=(Aa b).text) ⟨fun h=>⟨by rw[h.sort],h.flag,by rw[h.bits],h.text⟩,fun h=>⟨Zj,h.2.1,Zj,h.2.2.2⟩⟩;obtain⟨IA,ab⟩:=Ue (Ab a);obtain⟨IB,aq⟩:=Ue (Ab b);obtain⟨KA,ad⟩:=Ue ((Aa a).keys);obtain⟨KB,ae⟩:=Ue ((Aa b).keys);rw[<-ab,<-aq]at u ap;rw[<-ad,<-ae]at u ap;have bd:=hZ ad;have be:=hZ ae;have aG:=hZ ab;have aH:=hZ aq;rw[<-ad]at HA ai;rw[<-ae]at HB;rw[<-ab]at aB ai;rw[<-ab,<-aq,<-ad,<-ae];obtain⟨l,ar⟩:=Ue IA.length;obtain⟨S,aC⟩:=Ue IB.length;obtain⟨pa,au⟩:=Ue KA.length;obtain⟨T,av⟩:=Ue KB.length;rw[<-ar]at aB ai;rw[<-au]at HA ai;rw[<-av]at HB;rw[<-ar,<-aC,<-au,<-av];have L1:=hZ ar;have L2:=hZ aC;have L3:=hZ au;have L4:=hZ av;generalize ((Aa a).sort:Int)=sa at*
  generalize ((Aa b).sort:Int)=sb at*
  generalize (Aa a).flag=fa at*
  generalize (Aa b).flag=fb at*
  generalize ((Aa a).bits:Int)=ba at*
  generalize ((Aa b).bits:Int)=bb at*
  generalize (Aa a).text=ta at*
  generalize (Aa b).text=tb at*
  have HF:=hZ hF;clear hF ha hb aN aO aL aM aP aQ d ab aq ad ae ar aC au av ih aA aK hk;rw[Jy,Jy];obtain⟨w0,aj⟩:=Ue ((w.alloc (nC #[nI nX sa,.bool fa,nI .u64 ba,nG ta,nS la l lc,nS ka pa kc] 29)).alloc (nC #[nI nX sb,.bool fb,nI .u64 bb,nG tb,nS lb S ak,nS kb T aD] 29));have t:Hid (Chg w w0 []):=by rw[aj];exact hZ (((Chg.refl w []).alloc _).alloc _)
  have am:Hid (Ac w0 w.heap.size [nI nX sa,.bool fa,nI .u64 ba,nG ta,nS la l lc,nS ka pa kc] 29):=by rw[aj];exact hZ ((Ac.new w _ _).alloc _)
  have an:Hid (Ac w0 (w.heap.size+1) [nI nX sb,.bool fb,nI .u64 bb,nG tb,nS lb S ak,nS kb T aD] 29):=by rw[aj];exact hZ (BD _ _ [_,_,_,_,_,_] _ _ rfl Zh)
  go_enter func46,ntmps46;go_upto_region 1 with(fail);change Code.wp _ _ _ _ ((w.alloc (nC #[nI nX sa,.bool fa,nI .u64 ba,nG ta,nS la l lc,nS ka pa kc] 29)).alloc (nC #[nI nX sb,.bool fb,nI .u64 bb,nG tb,nS lb S ak,nS kb T aD] 29));rw[<-aj];clear aj;obtain⟨A,hA⟩:=Ue w.heap.size
  obtain⟨B,hB⟩:=Ue (w.heap.size+1);rw[<-hB]at an|-;rw[<-hA]at am|-;clear hA hB;obtain⟨al,af,a0,a1,a2,a3,J,a5⟩:=am.o.cells6;obtain⟨bl,bf,b0,b1,b2,b3,K,b5⟩:=an.o.cells6;by_cases G:sa=sb
  .have N:(sa !=sb)=false:=by rw[G];simp
   by_cases H:fa=fb
   .have Q:(fa !=fb)=false:=by rw[H];simp
    by_cases L:ba=bb
    .have d3:(ba !=bb)=false:=by rw[L];simp
     by_cases M:ta=tb
     .have d4:(ta.toList==tb.toList)=true:=by rw[M];simp
      have aT:=UD (qZ a b) (HQ.o.2 ⟨G,H,L,M⟩);by_cases e5:l=S
      .have d5:((l:Int) !=(S:Int))=false:=by rw[e5];simp
       by_cases e6:pa=T
       .have d6:((pa:Int) !=(T:Int))=false:=by rw[e6];simp
        subst G H L M e5 e6;clear N Q d3 d5 d6;have bc:=UD (Chg w w0 []->∀b o v,w.cell? ⟨b,o,nN⟩=nM v->w0.cell? ⟨b,o,nN⟩=nM v) fun h b o v C=>h.keeps C;have bh:l<=65536:=Zj;have bi:pa<=65536:=Zj;clear aB ai;have dt:(ta.toList==ta.toList)=true:=Zh;go_wp2_with fail;obtain⟨bm,bo,he,ag⟩:=HA.o.cell;injection he with ax ay az
        subst ax;subst az
        have aE:=UD (∀i k,KA[i]? =nM k->∃b o,ka=nM ⟨b,o,nN⟩/\w0.cell? ⟨b,o+i,nN⟩=nM (nG k)) fun i k hk=>by
         exact z1v
        clear ay ag;obtain⟨bn,bp,he,ag⟩:=HB.o.cell;injection he with ax ay az
        subst ax;subst az
        have aF:=UD (∀i k,KB[i]? =nM k->∃b o,kb=nM ⟨b,o,nN⟩/\w0.cell? ⟨b,o+i,nN⟩=nM (nG k)) fun i k hk=>by
         exact z1v
        clear ay ag;clear al af a0 a1 a2 a3 J a5 bl bf b0 b1 b2 b3 K b5;go_loopw [5] (fun v5 wr=>∃i:Nat,i<=pa/\v5= nI nX i/\Chg w0 wr []/\∀j:Nat,j<i->KA[j]? =KB[j]?) (fun v5 _=>pa-(intOf v5).toNat)
        case atStart=>exact⟨0,Zj,rfl,Chg.refl _ _,fun j h=>absurd h (Nat.not_lt_zero j)⟩
        case round=>
         obtain⟨i,hi,rfl,I,ah⟩:=hrel;have P:=hZ ah;have E:=hZ I;obtain⟨al,af,a0,a1,a2,a3,J,a5⟩:=(am.o.kept I).cells6;obtain⟨bl,bf,b0,b1,b2,b3,K,b5⟩:=(an.o.kept I).cells6;clear ah I;by_cases a9:i<pa
         .obtain⟨x,f⟩:∃x,KA[i]? =nM x:=⟨_,Q9 (by have:=L3.o;omega)⟩;obtain⟨y,s⟩:∃y,KB[i]? =nM y:=⟨_,Q9 (by have:=L4.o;omega)⟩;obtain⟨m,n,rfl,aI⟩:=aE.o i x f;obtain⟨p,q,rfl,aJ⟩:=aF.o i y s;have a6:=E.o.keeps aI;have a7:=E.o.keeps aJ;have bj:=World.block_lt_of_cell? _ _ a6;have bk:=World.block_lt_of_cell? _ _ a7;clear aI aJ;by_cases r:x=y
          .have hd:(x.toList==y.toList)=true:=by rw[r];simp
           have aw:=UD (∀j:Nat,j<i+1->KA[j]? =KB[j]?) fun j hj=>by
            by_cases e:j=i
            .subst e;rw[f,s,r]
            .exact P.o j Zj
           subst r;clear f s;go_upto_region 6 with(fail);go_quiet(fail)
           go_wp2_with fail;go_roundw
           case rel=>exact⟨i+1,Zj,by go_num,by exact cg E.o,aw.o⟩
           case measure=>simp[intOf];omega
          .have a8:¬x.toList=y.toList:=fun e=>r z1q;have hd:(x.toList==y.toList)=false:=Qq.2 a8;have d:=UD (R=false) (u.o fun _ O _=>r (by rw[O,s]at f;injection f with f;exact f.symm));clear f s r;go_upto_region 6 with(fail);go_quiet(fail)
           go_wp2_with fail;go_ret;exact⟨Bo d.o.symm,t.o.trans (b:=_) (by exact cg E.o)⟩
         .obtain rfl:i=pa:=by omega
          have aW:=UD (KA=KB) (List.ext_getElem? fun j=>by
           by_cases hj:j<i
           .exact P.o j hj
           .rw[List.getElem?_eq_none (by have:=L3.o;omega),List.getElem?_eq_none (by have:=L4.o;omega)])
          clear P aE aF;go_wp2_with fail;clear al af a0 a1 a2 a3 J a5 bl bf b0 b1 b2 b3 K b5;go_loopw [6] (fun v6 wr=>∃i:Nat,i<=l/\v6= nI nX i/\Chg w0 wr []/\∀j:Nat,j<i->IA[j]? =IB[j]?) (fun v6 _=>l-(intOf v6).toNat)
          case atStart=>exact⟨0,Zj,rfl,E.o,fun j h=>absurd h (Nat.not_lt_zero j)⟩
          case round=>
           clear E;obtain⟨i,hi,rfl,I,ah⟩:=hrel;have P:=hZ ah;have E:=hZ I;obtain⟨al,af,a0,a1,a2,a3,J,a5⟩:=(am.o.kept I).cells6;obtain⟨bl,bf,b0,b1,b2,b3,K,b5⟩:=(an.o.kept I).cells6;clear ah I;by_cases a9:i<l
           .obtain⟨x,f⟩:∃x,IA[i]? =nM x:=⟨_,Q9 (by have:=L1.o;omega)⟩;obtain⟨y,s⟩:∃y,IB[i]? =nM y:=⟨_,Q9 (by have:=L2.o;omega)⟩;obtain⟨m,n,p0,p1,p2,p3,p4,p5,rfl,aR,U,V,W,X,Y,Z⟩:=pZ aX.o aZ.o (by rw[<-aG.o];exact f);obtain⟨p,q,q0,q1,q2,q3,q4,q5,rfl,aS,y0,y1,y2,y3,y4,y5⟩:=pZ aY.o a4.o (by rw[<-aH.o];exact s);have g:=UD (Chg w wr []) (t.o.trans E.o);have ao:=UD (∀D,Chg w D []->Cl prog 46 #[nA #[p0,p1,p2,p3,p4,p5],nA #[q0,q1,q2,q3,q4,q5]] D (BU (BQ x y) D)) fun D C=>aV.o i x y _ _ D (by rw[<-aG.o];exact f) (by rw[<-aH.o];exact s) C aR aS;have HX:=hZ f;have HY:=hZ s;replace U:=g.o.keeps U;replace V:=g.o.keeps V;replace W:=g.o.keeps W;replace X:=g.o.keeps X;replace Y:=g.o.keeps Y;replace Z:=g.o.keeps Z;replace y0:=g.o.keeps y0;replace y1:=g.o.keeps y1;replace y2:=g.o.keeps y2;replace y3:=g.o.keeps y3;replace y4:=g.o.keeps y4;replace y5:=g.o.keeps y5;clear f s aR aS;by_cases r:x=y
            .rw[Vz r]at ao
             have aw:=UD (∀j:Nat,j<i+1->IA[j]? =IB[j]?) fun j hj=>by
              by_cases e:j=i
              .subst e;rw[HX.o,HY.o,r]
              .exact P.o j Zj
             clear r;go_upto_region 11 with(fail)
             go_region_held3(fun w'=>w'.cell? ⟨A,4,nN⟩=nM (nS (nM ⟨m,n,nN⟩) l lc)/\w'.cell? ⟨B,4,nN⟩=nM (nS (nM ⟨p,q,nN⟩) l ak)/\w'.cell? ⟨m,n+i*6,nN⟩=nM p0/\w'.cell? ⟨m,n+i*6+1,nN⟩=nM p1/\w'.cell? ⟨m,n+i*6+2,nN⟩=nM p2/\w'.cell? ⟨m,n+i*6+3,nN⟩=nM p3/\w'.cell? ⟨m,n+i*6+4,nN⟩=nM p4/\w'.cell? ⟨m,n+i*6+5,nN⟩=nM p5/\w'.cell? ⟨p,q+i*6,nN⟩=nM q0/\w'.cell? ⟨p,q+i*6+1,nN⟩=nM q1/\w'.cell? ⟨p,q+i*6+2,nN⟩=nM q2/\w'.cell? ⟨p,q+i*6+3,nN⟩=nM q3/\w'.cell? ⟨p,q+i*6+4,nN⟩=nM q4/\w'.cell? ⟨p,q+i*6+5,nN⟩=nM q5) (first|exact⟨J,K,U,V,W,X,Y,Z,y0,y1,y2,y3,y4,y5⟩|exact⟨c.keeps J,c.keeps K,c.keeps U,c.keeps V,c.keeps W,c.keeps X,c.keeps Y,c.keeps Z,c.keeps y0,c.keeps y1,c.keeps y2,c.keeps y3,c.keeps y4,c.keeps y5⟩)
              ((go_at_call 46;refine(ao.o _ (Chg.trans (b:=_) g.o z1w)).mono ?_;rintro e w1 ⟨rfl,aa⟩;have c:Chg wr w1 []:=ct cR aa;clear aa))
             have H1:=hZ c;clear c;go_wp2_with fail;go_roundw
             case rel=>exact⟨i+1,Zj,by go_num,E.o.trans H1.o,aw.o⟩
             case measure=>simp[intOf];omega
            .rw[XI r]at ao;have d:=UD (R=false) (u.o fun _ _ h3=>r (by have h4:=HX.o;rw[h3,HY.o]at h4;injection h4 with h4;exact h4.symm));clear r;go_upto_region 11 with(fail)
             go_region_held3(fun w'=>w'.cell? ⟨A,4,nN⟩=nM (nS (nM ⟨m,n,nN⟩) l lc)/\w'.cell? ⟨B,4,nN⟩=nM (nS (nM ⟨p,q,nN⟩) l ak)/\w'.cell? ⟨m,n+i*6,nN⟩=nM p0/\w'.cell? ⟨m,n+i*6+1,nN⟩=nM p1/\w'.cell? ⟨m,n+i*6+2,nN⟩=nM p2/\w'.cell? ⟨m,n+i*6+3,nN⟩=nM p3/\w'.cell? ⟨m,n+i*6+4,nN⟩=nM p4/\w'.cell? ⟨m,n+i*6+5,nN⟩=nM p5/\w'.cell? ⟨p,q+i*6,nN⟩=nM q0/\w'.cell? ⟨p,q+i*6+1,nN⟩=nM q1/\w'.cell? ⟨p,q+i*6+2,nN⟩=nM q2/\w'.cell? ⟨p,q+i*6+3,nN⟩=nM q3/\w'.cell? ⟨p,q+i*6+4,nN⟩=nM q4/\w'.cell? ⟨p,q+i*6+5,nN⟩=nM q5) (first|exact⟨J,K,U,V,W,X,Y,Z,y0,y1,y2,y3,y4,y5⟩|exact⟨c.keeps J,c.keeps K,c.keeps U,c.keeps V,c.keeps W,c.keeps X,c.keeps Y,c.keeps Z,c.keeps y0,c.keeps y1,c.keeps y2,c.keeps y3,c.keeps y4,c.keeps y5⟩)
              ((go_at_call 46;refine(ao.o _ (Chg.trans (b:=_) g.o z1w)).mono ?_;rintro e w1 ⟨rfl,aa⟩;have c:Chg wr w1 []:=ct cR aa;clear aa))
             have H1:=hZ c;clear c;go_wp2_with fail;go_ret;exact⟨Bo d.o.symm,g.o.trans H1.o⟩
           .obtain rfl:i=l:=by omega
            have aU:=UD (IA=IB) (List.ext_getElem? fun j=>by
             by_cases hj:j<i
             .exact P.o j hj
             .rw[List.getElem?_eq_none (by have:=L1.o;omega),List.getElem?_eq_none (by have:=L2.o;omega)])
            have d:=UD (R=true) (ap.o aT.o aW.o aU.o);go_wp2_with fail;go_ret;exact⟨Bo d.o.symm,t.o.trans E.o⟩
       .have d6:((pa:Int) !=(T:Int))=true:=by rw[bne_iff_ne];omega
        have d:=UD (R=false) (u.o fun _ O _=>e6 (by rw[L3.o,L4.o,O]));subst G H L M e5;clear e6 N Q d3;exact z1l
      .have d5:((l:Int) !=(S:Int))=true:=by rw[bne_iff_ne];omega
       have d:=UD (R=false) (u.o fun _ _ h3=>e5 (by rw[L1.o,L2.o,h3]));subst G H L M;clear e5 N Q d3;exact z1l
     .have d4:(ta.toList==tb.toList)=false:=Qq.2 fun e=>M z1q;have bg:¬ta.toList=tb.toList:=Qq.1 d4;have d:=UD (R=false) (u.o fun c _ _=>M (HQ.o.1 c).2.2.2);subst G H L;clear M N Q d3;exact z1l
    .have d3:(ba !=bb)=true:=bne_iff_ne.2 L;have d:=UD (R=false) (u.o fun c _ _=>L (HQ.o.1 c).2.2.1);subst G H;clear N Q;exact z1l
   .have Q:(fa !=fb)=true:=bne_iff_ne.2 H;have d:=UD (R=false) (u.o fun c _ _=>H (HQ.o.1 c).2.1);subst G;clear N;exact z1l
  .have N:(sa !=sb)=true:=bne_iff_ne.2 G;have d:=UD (R=false) (u.o fun c _ _=>G (HQ.o.1 c).1);exact z1l
theorem rZ(s p:BY)(w:Wl):
  Cl prog 45 #[nG s,nG p] w fun e w'=>e= nR (.bool (Lib.hasPrefix s.data.toList p.data.toList))/\Chg w w' []:=by
 rw[<-Lib.hasPrefix_of_take,<-Lib.size_eq,<-Lib.size_eq];by_cases h:p.size<=s.size
 .have b:(p.size:Int)<=(s.size:Int):=by omega
  have a:decide ((p.size:Int)<=(s.size:Int))=true:=decide_eq_true b;go_enter func45,ntmps45;go_wp2_with fail;go_ret;refine⟨?_,Chg.refl _ _⟩;show Ending.returned (Vl.bool ((s.extract 0 p.size).toList==p.toList))=_
  rw[Lib.extract_toList,Lib.toList_data];simp[h]
 .have a:decide ((p.size:Int)<=(s.size:Int))=false:=decide_eq_false Zj;go_enter func45,ntmps45;go_wp2_with fail;go_ret;refine⟨?_,Chg.refl _ _⟩;show Ending.returned (Vl.bool false)=_
  simp[h]
theorem z1k(h:p:=by go_wp2_with fail;go_ret;exact⟨by rw[c.o];rfl,Chg.refl _ _⟩):p:=h
theorem sM(s:BY)(w:Wl)(J:s.size<=16777216):Cl prog 87 #[nG s] w fun e w'=>e= nR (.bool (pW s))/\Chg w w' []:=by
 by_cases d:s.size=0
 .have k:s.data.toList=[]:=List.eq_nil_of_length_eq_zero (by rw[Array.length_toList];exact d);have B:s.toList.isEmpty=true:=by rw[Lib.toList_data,k];rfl
  have c:=UD (pW s=false) (by unfold pW;rw[k];rfl);clear k d;go_enter func87,ntmps87;exact z1k
 .have B:s.toList.isEmpty=false:=by
   rw[Lib.toList_data];cases e:s.data.toList with
   |nil=>exact absurd (by rw[show s.size=s.data.toList.length from Array.length_toList.symm,e];rfl) d
   |cons _ _=>rfl
  have I:0<s.size:=Zj;by_cases f:1<s.size/\s[0].toNat=48
  .have c:=UD (pW s=false) (by unfold pW;rw[ry f.1 f.2];rfl);have v:(1:Int)<(s.size:Int):=Zj;have n:decide ((1:Int)<(s.size:Int))=true:=decide_eq_true v;have x:((s[0].toNat:Int)==48)=true:=by rw[f.2];rfl
   have C:(s[0].toNat:Int)=48:=Zj;clear d f;go_enter func87,ntmps87;exact z1k
  .have u:=UD (1<s.size->∀g:0<s.size,s[0].toNat≠48) fun a g b=>f ⟨a,b⟩;have r:=UD (s.size≠0) d
   have z:(decide ((1:Int)<(s.size:Int))=false)\/(decide ((1:Int)<(s.size:Int))=true/\((s[0].toNat:Int)==48)=false):=by
    by_cases E:1<s.size
    .exact .inr ⟨decide_eq_true Zj,Qq.2 Zj⟩
    .exact .inl (decide_eq_false Zj)
   clear d f;rcases z with n|⟨n,x⟩
   all_goals
    go_enter func87,ntmps87;go_wp2_with fail;go_loopw [3] (fun l wr=>∃i:Nat,i<=s.size/\l= nI nX i/\w=wr/\sB s i) (fun l _=>s.size-(intOf l).toNat)
    case atStart=>exact⟨0,Zj,rfl,rfl,fun j _ h=>absurd h (Nat.not_lt_zero j)⟩
    case round=>
     obtain⟨i,hi,rfl,rfl,p⟩:=hrel;have m:=hZ p;clear p;by_cases q:i<s.size
     .have H:(i:Int)<(s.size:Int):=by omega
      by_cases G:s[i].toNat<48
      .have c:=UD (pW s=false) (by unfold pW;rw[qX q Zj];rfl);have o:decide ((s[i].toNat:Int)<48)=true:=decide_eq_true Zj;have D:(s[i].toNat:Int)<48:=Zj;exact z1k
      .by_cases K:57<s[i].toNat
       .have c:=UD (pW s=false) (by unfold pW;rw[qX q Zj];rfl);have o:decide ((s[i].toNat:Int)<48)=false:=decide_eq_false Zj;have y:decide ((57:Int)<(s[i].toNat:Int))=true:=decide_eq_true Zj;exact z1k
       .have o:decide ((s[i].toNat:Int)<48)=false:=decide_eq_false Zj;have y:decide ((57:Int)<(s[i].toNat:Int))=false:=decide_eq_false Zj
        have t:=UD (sB s (i+1)) fun j A F=>by
         by_cases e:j=i
         .subst e;omega
         .exact m.o j A Zj
        go_wp2_with fail;go_roundw
        case rel=>exact⟨i+1,Zj,by go_num,trivial,t.o⟩
        case measure=>simp[intOf];omega
     .obtain rfl:i=s.size:=by omega
      have c:=UD (pW s=true) (by unfold pW;rw[Ro r.o u.o m.o];rfl);exact z1k
def pV(a:Nat)(t:Tr)(s:BY):Int×Bool:=match t with
 | .obj ks _=>if C4 ks s=true then((A5 ks s:Int),true)else((ks.length:Int),false)
 |t=>if a=1 then(if s=IN then(((Ab t).length:Int),false)else(pJ s ((Ab t).length+1),false))else(pJ s (Ab t).length,true)
theorem sD(h:ks[i]? =nM s)(c:∀j k,j<i->ks[j]? =nM k->k≠s):C4 ks s=true/\A5 ks s=i:=by
 have a:=eO h c;unfold eN at a;split at a
 .rename_i b;exact⟨b,Zj⟩
 .omega
theorem tZ(b:∀j k,j<ks.length->ks[j]? =nM k->k≠s):C4 ks s=false:=by
 cases h:C4 ks s with
 |false=>rfl
 |true=>obtain⟨j,a⟩:=List.mem_iff_getElem?.1 (Cp.1 h);exact absurd rfl (b j s (Qc.1 a).1 a)
theorem z1m(h:p:=by go_enter func85,ntmps85;go_wp2_with(go_at_call 88;refine(y.o _).mono ?_;rintro e w1 ⟨rfl,u⟩;subst u);refine bodyPost_ret (results_tmp2 rfl _ _ _) rfl ?_;exact⟨by rw[a.o];rfl,(Chg.refl w []).alloc _⟩):p:=h
theorem z1x(h:p:=by rw[Lib.toList_data]at e;exact DK (by rw[e];rfl)):p:=h
theorem qn(c:Nat)(t:Tr)(F:Nat->Prop)(cs:List Vl)(s:BY)(w:Wl)(H:AL w F t cs)(T:(Ab t).length<=65536)(hs:s.size<=16777216):
  Cl prog 85 #[nA cs.toArray,nG s,nI nX c] w fun e w'=>e= nR (nT #[nI nX (pV c t s).1,.bool (pV c t s).2])/\Chg w w' []:=by
 have S:=rj H;obtain⟨V,W,J,U,xs,rfl,G,_⟩:=H.uni;rw[Jy];rcases sj t with⟨R,ks,l,rfl⟩|⟨R,ab⟩
 .simp only[Aa,Ab]at T S G|-;obtain⟨ai,aj,he,aa⟩:=G.cell;injection he with u h2 Q
  subst u;subst Q
  have HR:=UD (∀i k,ks[i]? =nM k->∃b o,J=nM ⟨b,o,nN⟩/\w.cell? ⟨b,o+i,nN⟩=nM (nG k)) fun i k f=>by
   obtain⟨b,o,e,_,A⟩:=aa i (nG k) (by simp[Ad,f]);exact⟨b,o,e,A⟩
  obtain⟨X,C⟩:=Ue l.length;obtain⟨n,E⟩:=Ue ks.length;have O:=hZ E;have g:pV c (.obj ks l) s=if C4 ks s=true then((A5 ks s:Int),true)else((ks.length:Int),false):=rfl;obtain⟨P,v⟩:=Ue (pV c (.obj ks l) s);rw[<-v]at g|-;have a:=hZ g;rw[<-E,<-C];rw[<-E,<-C]at S;rw[<-C]at T;clear H G aa h2 R g v E C;go_enter func85,ntmps85;go_wp2_with fail;obtain⟨w0,I⟩:=Ue (w.alloc (nC #[nI nX 6,.bool false,nI .u64 0,nG ⟨#[]⟩,nS V X W,nS J n U] 29));have L:Hid (Chg w w0 []):=by rw[I];exact hZ ((Chg.refl w []).alloc _)
  have HB:Hid (Ac w0 w.heap.size [nI nX 6,.bool false,nI .u64 0,nG ⟨#[]⟩,nS V X W,nS J n U] 29):=by rw[I];exact hZ (Ac.new w _ _)
  change Code.wp _ _ _ _ (w.alloc (nC #[nI nX 6,.bool false,nI .u64 0,nG ⟨#[]⟩,nS V X W,nS J n U] 29));rw[<-I];clear I;obtain⟨lb,fb,y0,y1,y2,y3,y4,y5⟩:=Ac.cells6 HB.o;go_loopw [8] (fun Y wr=>∃i:Nat,i<=n/\Y= nI nX i/\w0=wr/\∀j k,j<i->ks[j]? =nM k->k≠s) (fun Y _=>n-(intOf Y).toNat)
  case atStart=>exact⟨0,Zj,rfl,rfl,fun j k h=>absurd h (Nat.not_lt_zero j)⟩
  case round=>
   obtain⟨i,ag,rfl,rfl,ad⟩:=hrel;have N:=hZ ad;clear ad;by_cases ah:i<n
   .obtain⟨k,f⟩:∃k,ks[i]? =nM k:=⟨_,Q9 (by have:=O.o;omega)⟩;obtain⟨b,o,rfl,A⟩:=HR.o i k f;have c0:=L.o.keeps A;have Z:=hZ f;clear f A;by_cases m:k=s
    .have d:(k.toList==s.toList)=true:=by rw[m];simp
     have M:=hZ m;clear m;go_wp2_with fail;refine bodyPost_ret (results_tmp2 rfl _ _ _) rfl ?_;obtain⟨p,r⟩:=sD (M.o▸Z.o) N.o;exact⟨by rw[a.o,Qr p,r];rfl,L.o⟩
    .have Q:¬k.toList=s.toList:=fun e=>m z1q;have d:(k.toList==s.toList)=false:=by simpa using Q
     have M:=hZ m;clear m;go_wp2_with fail;go_roundw
     case rel=>
      refine⟨i+1,Zj,by go_num,trivial,fun j q hj x=> ?_⟩;by_cases ae:j=i
      .subst ae;have e1:=Z.o;rw[e1]at x;injection x with x
       rw[<-x];exact M.o
      .exact N.o j q Zj x
     case measure=>simp[intOf];omega
   .obtain rfl:i=n:=by omega
    go_wp2_with fail;refine bodyPost_ret (results_tmp2 rfl _ _ _) rfl ?_;have p:=tZ (ks:=ks) (s:=s) (fun j k hj f=>N.o j k (by have:=O.o;omega) f);exact⟨by rw[a.o,p,O.o];rfl,L.o⟩
 .have g:pV c t s=if c=1 then(if s=IN then(((Ab t).length:Int),false)else(pJ s ((Ab t).length+1),false))else(pJ s (Ab t).length,true):=by
   cases t<;>first|rfl|exact absurd rfl (ab _ _)
  obtain⟨P,v⟩:=Ue (pV c t s);rw[<-v]at g|-;have a:=hZ g;have z:=UD (∀n:Nat,n<=4294967296->∀K,Cl prog 88 #[nG s,nI nX n] K fun e w'=>e= nR (nI nX (pJ s n))/\K=w') fun n D K=>qP s n K D hs;clear H G g v ab;generalize ((Aa t).sort:Int)=so at*
  generalize (Aa t).flag=fl
  generalize ((Aa t).bits:Int)=bi
  generalize (Aa t).text=tx
  obtain⟨n,D⟩:=Ue ((Ab t).length);rw[<-D]at T S a|-;clear D;generalize (Aa t).keys.length=kn at*
  have af:(so==6)=false:=Qq.2 R;by_cases B:c=1
  .have p:((c:Int)==1)=true:=by simp;omega
   rw[Qr B]at a;clear B;by_cases d:s=IN
   .rw[Qr d]at a;have r:(s.toList==[45])=true:=by rw[d];decide+kernel
    have g3:s.toList=[45]:=by simpa using r
    clear d;go_enter func85,ntmps85;go_wp2_with fail;refine bodyPost_ret (results_tmp2 rfl _ _ _) rfl ?_;exact⟨by rw[a.o];rfl,(Chg.refl w []).alloc _⟩
   .rw[Qs d]at a;have r:(s.toList==[45])=false:=Qq.2 fun e=>d z1x;have g3:¬s.toList=[45]:=Qq.1 r;have y:=hZ (z.o (n+1) Zj);rw[Int.natCast_add]at y;clear d z;exact z1m
  .have p:((c:Int)==1)=false:=Qq.2 Zj;rw[Qs B]at a;have y:=hZ (z.o n Zj);clear B z;exact z1m
theorem pU(ts:List BY)(h:ts≠[]):Ad ts.dropLast=(Ad ts).take (ts.length-1):=by
 unfold Ad;rw[List.dropLast_eq_take,List.map_take]
theorem rf{ts:List BY}(h:ts≠[]):ts[ts.length-1]? =nM (AH ts):=by
 unfold AH;rw[List.getLastD_eq_getLast?,List.getLast?_eq_getElem?];have:ts.length-1<ts.length:=by have:=List.length_pos_iff.2 h;omega
 rw[Q9 this];rfl
def rY(a c b:Vl)(m:Nat)(j:Nat)(y:Vl):Prop:=match j with
 |0=>y=a
 |1=>y=c
 |2=>y= nI nX m
 |3=>y=b
 |_=>True
def rL(a b m d g n:Nat)(e:Option Addr)(f:Nat)(c:BY)(z:Int)(j:Nat)(y:Vl)(_:Wl):Prop:=match j with
 |0=>y=(nS (nM ⟨a,b,nN⟩) (m+1) d)
 |1=>y=(nI nX m)
 |2=>y=(nP (nM ⟨a,b+m,nN⟩))
 |3=>y=(nG c)
 |4=>y=(.bool true)
 |5=>y=(.bool true)
 |6=>y=(nS (nM ⟨a,b,nN⟩) (m+1) d)
 |7=>y=(nI nX m)
 |8=>y=(nP (nM ⟨a,b+m,nN⟩))
 |9=>y=(nG c)
 |10=>y=(nP (nM ⟨g,4,nN⟩))
 |11=>y=(nS e n f)
 |12=>y=(nI nX n)
 |13=>y=(nI nX ((n:Int)+1))
 |14=>y=(nI nX z)
 |15=>y=(.bool (decide (z<0)))
 |16=>y=(.bool (decide (z<0)))
 |17=>y=(.bool (decide (z<0)))
 |_=>True
theorem z1i(h:p:=by go_simp;exact d _ _ Zh (c.put0 (fun _ _ _ _ _ h=>h) (by simp[rL]) cR)):p:=h
theorem z1j(h:p:=by rw[Qr (Cw rfl ZN (c.vals 5 (B ⟨5,.guard⟩ Zh rfl)))];exact z1i):p:=h
theorem z1s(h:p:=by go_simp;exact d _ _ Zh (c.put ZM (by simp[rY]))):p:=h
theorem z1y(h:p:=by go_wp2_with fail;go_ret;exact⟨by rw[Q.o];rfl,X.o.trans ap.o⟩):p:=h
theorem qi(t:Tr)(F:Nat->Prop)(cs:List Vl)(ts:List BY)(sl:Vl)(w:Wl)(hv:AL w F t cs)(o:∀b,F b->b<w.heap.size)(hf:Bt t)(T:As w sl 1 ts.length (Ad ts))(U:ts.length<=65536)(an:∀s∈ts,s.size<=16777216):
  Cl prog 48 #[nA cs.toArray,sl] w fun e w'=>e= nR (nI nX (EN t ts))/\Chg w w' []:=by
 obtain⟨ta,u,rfl,_⟩:=T.form;have aM:=E7 hv;obtain⟨L,c1,M,c3,c4,c5,rfl⟩:=kt aM.2;by_cases H:ts=[]
 .subst H;go_enter func48,ntmps48;go_wp2_with fail;go_ret;exact⟨rfl,(Chg.refl w []).alloc _⟩
 .obtain⟨m,hm⟩:∃m,ts.length=m+1:=⟨ts.length-1,by have:=List.length_pos_iff.2 H;omega⟩;obtain⟨r,v,rfl,aA⟩:=T.base Zj ZM;have aE:ts.dropLast.length=m:=by rw[List.length_dropLast];omega
  have bH:m+1<=u:=by obtain⟨_,_,e,h2,_⟩:=T;injection e with _ _ e;omega
  have aJ:As w (nS (nM ⟨r,v,nN⟩) m u) 1 ts.dropLast.length (Ad ts.dropLast):=by
   have:=T.head m Zj;rw[pU ts H,aE,show ts.length-1=m by omega];simpa using this
  have aG:w.cell? ⟨r,v+m,nN⟩=nM (nG (AH ts)):=aA m _ (by have:=rf H;rw[show ts.length-1=m by omega]at this;simp[Ad,this]);have ai:(AH ts).size<=16777216:=an _ (Re H)
  have au:=UD (∀x,Chg w x []->Cl prog 44 #[nA #[L,c1,M,c3,c4,c5],nS (nM ⟨r,v,nN⟩) m u] x (pG F (Ah t ts.dropLast) x)) fun x hx=>by
   have:=pK t F _ ts.dropLast _ x (AL.kept (hx.keepsF o) (fun _ h=>h) _ _ hv) (fun b hb=>Q6 (o b hb) hx.size) hf (aJ.kept hx) Zj (fun s hs=>an s (List.dropLast_subset _ hs));exact this
  obtain⟨j,aj⟩:=Ue (AH ts)
  have ad:=UD (EN t ts=match Ah t ts.dropLast with
   |none=>4
   |some p=>Gg j p) (by unfold EN;rw[Qs H,aj];cases Ah t ts.dropLast<;>rfl)
  rw[<-aj]at aG ai;obtain⟨MN,az⟩:=Ue (EN t ts);rw[<-az]at ad|-;have ah:∀p,Ah t ts.dropLast=nM p->Bt p:=fun p f=>hf.lead f;obtain⟨LD,ay⟩:=Ue (Ah t ts.dropLast);rw[<-ay]at au ad ah;have aR:=hZ ah;have HF:=hZ o;have Y:=UD (Ac (w.alloc (nC #[L,c1,M,c3,c4,c5] 29)) w.heap.size [L,c1,M,c3,c4,c5] 29) (Ac.new w _ _);rw[hm];have bB:m+1<=65536:=Zj;clear T U hv aM hf aJ aA aE hm H aj az ay ah o an;go_enter func48,ntmps48;go_upto_region 4 with(fail);obtain⟨w0,ao⟩:=Ue (w.alloc (nC #[L,c1,M,c3,c4,c5] 29))
  rw[<-ao]at Y|-;have H0:Hid (Chg w w0 []):=by rw[ao];exact hZ ((Chg.refl w []).alloc _)
  clear ao;obtain⟨A,hA⟩:=Ue w.heap.size;rw[<-hA]at Y|-;clear hA;obtain⟨al,af,a0,a1,a2,a3,a4,a5⟩:=Y.o.cells6;have bE:(m:Int)<=(m:Int)+1:=Zj;have bA:(0:Int)<=(m:Int):=Zj;have bF:m<=u:=Zj;have bG:(m:Int)<=(u:Int):=Zj;have aq:=UD (∀b,F b->b<w0.heap.size) fun b hb=>Q6 (HF.o b hb) H0.o.size;clear al af a0 a1 a2 a3 a4 a5;refine uW (uD 4 F LD (rY (nA #[L,c1,M,c3,c4,c5]) (nS (nM ⟨r,v,nN⟩) (m+1) u) (nS (nM ⟨r,v,nN⟩) m u) m) w0) ?_ ?_ ?_
  .intro ii op a wa dd I o W B aY c K d;have f:=fun k=>B ⟨k,.data⟩;match ii,I with
   |0,rfl=>
    have h2:rS a 2= nP (nM ⟨A,0,nN⟩):=o.at 2 Yb;obtain⟨zl,zf,z0,z1,z2,z3,z4,z5⟩:=(Y.o.kept c.chg).cells6;exact z1s
   |1,rfl=>
    have h1:rS a 1=(nS (nM ⟨r,v,nN⟩) (m+1) u):=o.at 1 Yb;exact z1s
   |2,rfl=>
    have q:rS a 5=(nI nX m):=o.at 5 Yb;exact z1s
   |3,rfl=>
    have bb:rS a 16=(nS (nM ⟨r,v,nN⟩) (m+1) u):=c.vals 1 ZM (f 1 Zh rfl);have bc:rS a 17=(nI nX m):=c.vals 2 ZM (f 2 Zh rfl);exact z1s
   |4,rfl=>
    have ba:rS a 15= nA #[L,c1,M,c3,c4,c5]:=c.vals 0 ZM (f 0 Zh rfl);have bd:rS a 18=(nS (nM ⟨r,v,nN⟩) m u):=c.vals 3 ZM (f 3 Zh rfl);go_simp;go_at_call 44;refine(au.o wa (H0.o.trans c.chg)).mono ?_;intro e w1 he;obtain⟨D,b,rfl,E,hc⟩:=pG.tell he;exact d _ _ Zh (c.putC W hc E)
   |5,rfl=>
    have i:=f 4 Zh rfl;obtain⟨D,b,y,_⟩:=c.call i;have be:rS a 19= nT #[nA D.toArray,.bool b]:=y;have V:=c.putM i;rw[y]at V;go_simp;exact d _ _ Zh V
   |6,rfl=>
    obtain⟨i,e5⟩:=c.mv (f 5 Zh rfl);obtain⟨D,b,y,_⟩:=c.call i;have aT:rS a 14= nT #[nA D.toArray,.bool b]:=e5.trans y;go_simp;exact d _ _ Zh (c.putX0 i W y)
   |7,rfl=>
    obtain⟨i,e5⟩:=c.mv (f 5 Zh rfl);obtain⟨D,b,y,_⟩:=c.call i;have aT:rS a 14= nT #[nA D.toArray,.bool b]:=e5.trans y;go_simp;exact d _ _ Zh (c.putX1 i W y)
   |8,rfl=>
    go_simp;exact d _ _ Zh (c.putB aq.o W)
   |9,rfl=>
    have aD:=f 8 Zh rfl;have aB:=f 6 Zh rfl;obtain⟨g,es,S,hg,hB,hl,_⟩:=c.bx aD;obtain⟨i,a7⟩:=c.x0 aB;obtain⟨D,b,y,E⟩:=c.call i;have ex:=a7 _ _ y;have C:a.tmps.getD 6 undef= nP (nM ⟨g,0,nN⟩):=S;have aU:a.tmps.getD 20 undef= nA D.toArray:=ex;rw[Qr ZN];refine Gj _ _ _ rfl g D (by simpa[Act.eval]using C) (by simpa[Act.eval]using aU) 29 es hB (by rw[E.one.2];exact A9) (by rw[hl,E.one.2]) E.one.1 ?_;intro w7 bK aW aX;exact d _ _ Zh (c.putS aq.o aB aD S ex E.one.2 aW aX hg)
   |10,rfl=>
    have aC:=f 7 Zh rfl;obtain⟨i,aO⟩:=c.x1 aC;obtain⟨D,b,y,_⟩:=c.call i;have bg:rS a 21= .bool b:=aO _ _ y;have V:=c.putA aC;rw[aO _ _ y]at V;go_simp;exact d _ _ Zh V
   |_+11,I=>exact absurd I Zh
  .intro a wR dd o i c;obtain⟨D,b,g,S,eb,hg,ax,E⟩:=c.fin (i 8 ZM) (i 9 ZM) (i 10 ZM);have C:a.tmps.getD 6 undef= nP (nM ⟨g,0,nN⟩):=S;have h7:a.tmps.getD 7 undef= .bool b:=eb;have aQ:=hZ c.chg;have HG:=hZ hg;have Z:=hZ ax;have ab:=hZ E;clear c i S eb hg ax E;obtain⟨fu,O,rfl⟩:=o.fin2 [15,16,17,18,19,14,20,21,6,7] Yb;have k6:=(O 6).symm.trans C;have k7:=(O 7).symm.trans h7;clear o O C h7;rw[k6,k7];clear k6 k7;have G:=UD (Chg w wR []) (H0.o.trans aQ.o);have am:=G.o.keeps aG;have aI:=ab.o.one;cases LD with
   |none=>
    have Q:Hid (MN=4):=ad;obtain⟨rfl,rfl⟩:=ab.o;clear am aI;go_wp2_with fail;go_ret;exact⟨by rw[Q.o];rfl,G.o⟩
   |some p=>
    have ag:Hid (MN=Gg j p):=ad;have aF:=aR.o p rfl;obtain⟨rfl,aN⟩:=ab.o;obtain⟨la,lc,ka,kc,xs,rfl,_⟩:=aN.uni;unfold vC at Z;obtain⟨bl,bf,b0,b1,b2,b3,b4,b5⟩:=Z.o.cells6;clear aN aI ab;rcases sj p with⟨C,ks,l,rfl⟩|⟨C,ak⟩
    .have ae:=UD (MN=0) (by rw[ag.o];rfl);simp only[Aa]at b0;go_wp2_with fail;go_ret;exact⟨by rw[ae.o];rfl,G.o⟩
    .have aw:(((Aa p).sort:Int)==6)=false:=Qq.2 C;rcases sh p with⟨q,l,rfl⟩|⟨q,aH⟩
     .have R:=UD (MN=if j=IN then 0 else if pW j=true then(if pJ j (l.length+1)<0 then 4 else 0)else 172) (by rw[ag.o];exact sE j l);have aZ:l.length<=65536:=by have:=aF.many;simp only[Ab]at this;omega
      simp only[Aa,Ab]at b0 b1 b2 b3 b4 b5;obtain⟨n,U⟩:=Ue l.length;rw[<-U]at R aZ b4;rw[show(Ab (Tr.list l)).length=n from U.symm]at Z;have bC:(m:Int)<(m:Int)+1:=Zj;have bD:m<m+1:=Zj;have bI:IntKind.i64.wrap ((n:Int)+1)=(n:Int)+1:=by rw[IntKind.wrap_i64];omega
      have aa:=UD (∀x,Cl prog 87 #[nG j] x fun e w'=>e= nR (.bool (pW j))/\Chg x w' []) fun x=>sM j x ai;have ar:=UD (∀x,Cl prog 88 #[nG j,nI nX ((n:Int)+1)] x fun e w'=>e= nR (nI nX (pJ j (n+1)))/\x=w') fun x=>by have:=qP j (n+1) x Zj ai;rwa[Int.natCast_add]at this
      clear C aw ak q U aF;by_cases i:j=IN
      .have ae:=UD (MN=0) (by rw[R.o,Qr i]);have g2:(j.toList==[45])=true:=by rw[i];decide+kernel
       have g3:j.toList=[45]:=by simpa using g2
       clear i;go_upto_region 13 with(fail);go_quiet(fail)
       go_wp2_with fail;go_ret;exact⟨by rw[ae.o];rfl,G.o.trans (b:=_) z1w⟩
      .have g2:(j.toList==[45])=false:=Qq.2 fun e=>i z1x;have g3:¬j.toList=[45]:=Qq.1 g2;have g4:(j.toList !=[45])=true:=bne_iff_ne.2 g3;rw[Qs i]at R;clear i;cases N:pW j with
       |false=>
        have P:=UD (MN=172) (by rw[R.o,N];rfl);rw[N]at aa;clear N;go_wp2_with(go_at_call 87;refine(aa.o _).mono ?_;rintro e w5 ⟨rfl,q⟩;have X:=hZ (G.o.trans q);clear q);go_ret;exact⟨by rw[P.o];rfl,X.o⟩
       |true=>
        have P:=UD (MN=if pJ j (n+1)<0 then 4 else 0) (by rw[R.o,N];rfl);rw[N]at aa;obtain⟨z,J⟩:=Ue (pJ j (n+1));rw[<-J]at P ar;clear N J;go_upto_region 13 with(go_at_call 87;refine(aa.o _).mono ?_;rintro e w5 ⟨rfl,q⟩;have X:=hZ (G.o.trans q);have aK:=q.keeps am;obtain⟨a9,a8,y0,y1,y2,y3,y4,y5⟩:=(Z.o.kept q).cells6;clear q);clear bl bf b0 b1 b2 b3 b4 b5 am y0 y1 y2 y3 y5;refine uW (uE w5 [] (rL r v m u g n la lc j z)) ?_ ?_ ?_
        .intro ii op a wa dd I o W B aY c K d;have f:=fun k=>B ⟨k,.data⟩;match ii,I with
         |0,rfl=>
          have h1:rS a 1=(nS (nM ⟨r,v,nN⟩) (m+1) u):=o.at 1 Yb;exact z1i
         |1,rfl=>
          have q:rS a 5=(nI nX m):=o.at 5 Yb;exact z1i
         |2,rfl=>
          have bh:rS a 48=(nS (nM ⟨r,v,nN⟩) (m+1) u):=c.vals 0 (f 0 Zh rfl);have bi:rS a 49=(nI nX m):=c.vals 1 (f 1 Zh rfl);exact z1i
         |3,rfl=>
          have bj:rS a 50=(nP (nM ⟨r,v+m,nN⟩)):=c.vals 2 (f 2 Zh rfl);have a6:=c.chg.keeps aK;exact z1i
         |4,rfl=>
          have bk:rS a 51=(nG j):=c.vals 3 (f 3 Zh rfl);exact z1i
         |5,rfl=>
          have bm:rS a 52=(.bool true):=c.vals 4 (f 4 Zh rfl);exact z1i
         |6,rfl=>
          have h1:rS a 1=(nS (nM ⟨r,v,nN⟩) (m+1) u):=o.at 1 Yb;exact z1j
         |7,rfl=>
          have q:rS a 5=(nI nX m):=o.at 5 Yb;exact z1j
         |8,rfl=>
          have bo:rS a 54=(nS (nM ⟨r,v,nN⟩) (m+1) u):=c.vals 6 (f 6 Zh rfl);have bp:rS a 55=(nI nX m):=c.vals 7 (f 7 Zh rfl);exact z1j
         |9,rfl=>
          have bq:rS a 56=(nP (nM ⟨r,v+m,nN⟩)):=c.vals 8 (f 8 Zh rfl);rw[Qr (Cw rfl ZN (c.vals 5 (B ⟨5,.guard⟩ Zh rfl)))];have a6:=c.chg.keeps aK;exact z1i
         |10,rfl=>
          have C:rS a 6=(nP (nM ⟨g,0,nN⟩)):=o.at 6 Yb;exact z1j
         |11,rfl=>
          have bs:rS a 58=(nP (nM ⟨g,4,nN⟩)):=c.vals 10 (f 10 Zh rfl);rw[Qr (Cw rfl ZN (c.vals 5 (B ⟨5,.guard⟩ Zh rfl)))];have bJ:=c.chg.keeps y4;exact z1i
         |12,rfl=>
          have bt:rS a 59=(nS la n lc):=c.vals 11 (f 11 Zh rfl);exact z1j
         |13,rfl=>
          have bu:rS a 60=(nI nX n):=c.vals 12 (f 12 Zh rfl);exact z1j
         |14,rfl=>
          have br:rS a 57=(nG j):=c.vals 9 (f 9 Zh rfl);have bv:rS a 61=(nI nX ((n:Int)+1)):=c.vals 13 (f 13 Zh rfl);rw[Qr (Cw rfl ZN (c.vals 5 (B ⟨5,.guard⟩ Zh rfl)))];go_simp;go_at_call 88;refine(ar.o wa).mono ?_;rintro e w6 ⟨rfl,C⟩;subst C;exact d _ _ Zh (c.put0 (fun _ _ _ _ _ h=>h) (by simp[rL]) cR)
         |15,rfl=>
          have bw:rS a 62=(nI nX z):=c.vals 14 (f 14 Zh rfl);exact z1j
         |16,rfl=>
          have bn:rS a 53=(.bool true):=c.vals 5 (f 5 Zh rfl);have bx:rS a 63=(.bool (decide (z<0))):=c.vals 15 (f 15 Zh rfl);exact z1i
         |17,rfl=>
          have bz:rS a 64=(.bool (decide (z<0))):=c.vals 16 (f 16 Zh rfl);exact z1i
         |_+18,I=>exact absurd I Zh
        .intro a bL dd o i c;have av:a.tmps.getD 47 undef= .bool (decide (z<0)):=c.vals 17 (i 17 ZM);have ap:=hZ c.chg;clear c i;obtain⟨fu,O,rfl⟩:=o.fin2 [48,49,50,51,52,53,54,55,56,57,58,59,60,61,62,63,64,47] Yb;have aP:=(O 47).symm.trans av;clear o O av;rw[aP];clear aP;by_cases J:z<0
         .have Q:=UD (MN=4) (by rw[P.o,Qr J]);rw[decide_eq_true J];exact z1y
         .have Q:=UD (MN=0) (by rw[P.o,Qs J]);rw[decide_eq_false J];exact z1y
        .exact⟨(Chg.refl w5 _).drew,fun _ e=>by cases e⟩
     .have aS:=UD (MN=5) (by rw[ag.o];cases p<;>first|rfl|exact absurd rfl (ak _ _)|exact absurd rfl (aH _));have aV:(((Aa p).sort:Int) !=5)=true:=bne_iff_ne.2 q;obtain⟨so,aL⟩:=Ue ((Aa p).sort:Int);rw[<-aL]at aw aV b0;clear aL C q ak aH;go_wp2_with fail;go_ret;exact⟨by rw[aS.o];rfl,G.o⟩
  .exact uD.start _ _ _ _ _ _ _ (Chg.refl _ _).drew
end
end Go.Proofs.YtpdnhfkacgdocaaGreatDoor

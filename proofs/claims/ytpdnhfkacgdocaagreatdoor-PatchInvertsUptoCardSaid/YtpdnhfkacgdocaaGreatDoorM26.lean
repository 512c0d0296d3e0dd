/- Part 26 of the proof of both cards. -/
import Derived.Test.YtpdnhfkacgdocaaGreatDoorM25
set_option maxRecDepth 100000
set_option maxHeartbeats 32000000
set_option linter.all false
namespace Go.Proofs.YtpdnhfkacgdocaaGreatDoor
open Go renaming Calls->Cl,TypeId->Ti,Value->Vl,World->Wl
open Go.Value renaming agg->nA,iface->nF,int->nI,pointer->nP,slice->nS,string->nG,tuple->nT
open Go.IntKind renaming i64->nX
open Go.Ending renaming returned->nR
open Go.Obj renaming cells->nC
open Option renaming none->nN,some->nM
section
open _root_.Go.Proofs.Tryz
open Go Go.Shelf Go.RowKit Go.Lib Tree Ptr
variable{b c n:Nat}{q:Option Addr}{p:Prop}{a:Wl}
theorem t7(t:Tr)(o:Bq)(F:Nat->Prop)(cs:List Vl)(sv:Vl)(ys:List Vl)(w:Wl)(f:AL w F t cs)(g:∀b,F b->b<w.heap.size)(h:Bt t)(a:T7 o)(c:As w sv 6 o.steps.length ys)(d:Az w o.steps ys):
  Cl prog 26 #[nA cs.toArray,nA (BJ o sv).toArray] w (sN F cs (Gz t o) w):=by
 by_cases e:Bn o=0
 .exact uz t o F cs sv ys w e f g h a c d
 .exact sU t o F cs sv ys w e f a c d
def pQ(r:Zi)(w:Wl)(e:Ending)(w':Wl):Prop:=(match r with
 | .yes t u=>∃(F:Nat->Prop) (cs:List Vl) (a:Vl) (ys:List Vl) (G:Nat->Prop),e= nR (nT #[nA cs.toArray,a,nI nX 0,nI nX 0])/\AL w' F t cs/\(∀b,F b->b<w'.heap.size)/\EW w w' (u.map CW.toI) a ys G
 | .no k i=>∃cs:List Vl,(∀u∈cs,u.oneCell'=true)/\cs.length=6/\e= nR (nT #[nA cs.toArray,nS nN 0 0,nI nX k,nI nX i]))/\Chg w w' []
theorem qt(cs:List Vl)(k:(∀u∈cs,u.oneCell'=true)/\cs.length=6)(a:Option Addr)(n c:Nat)(w:Wl)(v:65536<n)(x:n<=4294967296):
  Cl prog 9 #[nA cs.toArray,nS a n c] w fun e w'=>(∃cs:List Vl,(∀u∈cs,u.oneCell'=true)/\cs.length=6/\e= nR (nT #[nA cs.toArray,nS nN 0 0,nI nX 3,nI nX (-1)]))/\Chg w w' []:=by
 have t:(65536:Int)<(n:Int):=Zj;have l:=hZ k.1;obtain⟨d,f,g,h,i,j,rfl⟩:=kt k.2;obtain⟨w0,b⟩:=Ue ((w.alloc (nC #[d,f,g,h,i,j] 29)).alloc (nC zV.toArray 29));have m:Hid (Chg w w0 []):=by rw[b];exact hZ (((Chg.refl w []).alloc _).alloc _)
 have o:Hid (Ac w0 w.heap.size [d,f,g,h,i,j] 29):=by rw[b];exact hZ ((Ac.new w _ _).alloc _)
 have r:Hid (Ac w0 (w.heap.size+1) zV 29):=by rw[b];exact hZ (BD _ _ zV _ _ rfl Zh)
 clear k;go_enter func9,ntmps9;go_upto_region 1 with(fail);change Code.wp _ _ _ _ ((w.alloc (nC #[d,f,g,h,i,j] 29)).alloc (nC zV.toArray 29));rw[<-b];clear b
 go_wp2_with(first
  |(refine uN o.o ?_)
  |(refine uO r.o l.o ?_;intro z p q))
 refine bodyPost_ret (uT p.o) rfl ?_;exact⟨⟨_,l.o,rfl,rfl⟩,Chg.fresh m.o q.o (fun y s=>by simp at s;omega)⟩
structure uj(w:Wl)(A R:Nat)(F0:Nat->Prop)(t:Tr)(u:List CW)(ds:List Vl)(F:Nat->Prop)(sl:Vl)(ys:List Vl)(G:Nat->Prop)(wr:Wl):Prop where
 chg:Chg w wr []
 box:Ac wr A ds 29
 res:Ac wr R zV 29
 val:AL wr F t ds
 lt:∀b,F b->(F0 b\/R<b)/\b<wr.heap.size
 ops:EW w wr (u.map CW.toI) sl ys G
 far:∀b,G b->R<b
def uu(a c pv b:Vl)(i:Int)(j:Nat)(y:Vl):Prop:=match j with
 |0=>y=a
 |1=>y=c
 |2=>y= nI nX i
 |3=>y=pv
 |4=>y=b
 |_=>True
theorem sG{d:Ti}(h:∀g,(Vl.slice q n c).ownBlock=nM g->(Vl.slice (nM ⟨a.heap.size,0,nN⟩) 0 0).ownBlock=nM g\/g=(a.alloc (nC #[] d)).heap.size):∀g,(Vl.slice q n c).ownBlock=nM g->a.heap.size<=g:=fun g b=>by
 rcases h g b with h|h
 .have e:a.heap.size=g:=Q5 h;omega
 .simp at h;omega
theorem tM{w':Wl}{c:Ti}(k:Chg (a.alloc (nC #[] c)) w' (Vl.slice (nM ⟨a.heap.size,0,nN⟩) 0 0).ownBlock.toList):Chg a w' []:=Chg.fresh ((Chg.refl a []).alloc _) k (fun y b=>by
 have e:y=a.heap.size:=by simpa[Vl.ownBlock]using b
 omega)
theorem tp{i:Wl}{f:Option Addr}{d:Nat}(h:∀g,(Vl.slice q n c).ownBlock=nM g->a.heap.size<=g)(l:a.heap.size<=i.heap.size)(k:∀g,(Vl.slice f d b).ownBlock=nM g->(Vl.slice q n c).ownBlock=nM g\/g=i.heap.size):∀g,(Vl.slice f d b).ownBlock=nM g->a.heap.size<=g:=fun g j=>by
 rcases k g j with e|e
 .exact h g e
 .omega
theorem rN{F e d FB:Nat->Prop}{R a:Nat}(h:∀x,d x->F x\/FB x)(g:∀x,F x->(e x\/R<x)/\x<a)(f:∀x,FB x->c<=x/\x<b)(j:a<=b):∀x,d x->x<b:=fun x i=>(h x i).elim (fun h=>Q6 (g x h).2 j) (fun h=>(f x h).2)
theorem z3y(h:p:=by have aW:rS a 23=(nT #[nA J.toArray,O,nI nX N]):=c.vals 6 (j 6 Zh rfl);have p:E 5=true:=c.wait 6 (j 6 Zh rfl) ZM ZM;go_simp;exact l _ _ Zh ⟨_,_,_,_,_,c.val ZM ZM ZM (.inr p) rfl⟩):p:=h
theorem z3z(h:p:=by go_simp;exact l _ _ Zh ⟨_,_,_,_,_,c.val ZM ZM ZM (.inl ZM) rfl⟩):p:=h
theorem z4a(h:p:=by go_simp;exact l _ _ Zh ⟨_,_,_,_,_,c.val ZM ZM ZM (.inr p) rfl⟩):p:=h
theorem z4b(h:p:=by have:=ah.o;omega):p:=h
theorem rB(t:Tr)(F0:Nat->Prop)(cs:List Vl)(r:List Bq)(so:Vl)(xs:List Vl)(w:Wl)(hv:AL w F0 t cs)(v:∀b,F0 b->b<w.heap.size)(hf:Bt t)(hR:As w so 4 r.length xs)(c:Cc w r xs)(hs:∀o∈r,T7 o)(hn:r.length<=65536):
  Cl prog 9 #[nA cs.toArray,so] w (pQ (BR t [] 0 r) w):=by
 obtain⟨sa,sc,rfl,_⟩:=hR.form;have X:=E7 hv;obtain⟨c0,c1,c2,c3,c4,c5,rfl⟩:=kt X.2;have HR:=hZ hR;have HI:=hZ c;have HS:=hZ hs;have HF:=hZ v;have bg:=hZ hf;obtain⟨n,aD⟩:=Ue r.length;have ah:=hZ aD;obtain⟨rr,aE⟩:=Ue (BR t [] 0 r);have aQ:=hZ aE;rw[<-aD]at hn|-;rw[<-aE];have bS:decide ((65536:Int)<(n:Int))=false:=decide_eq_false Zj;obtain⟨w0,af⟩:=Ue ((w.alloc (nC #[c0,c1,c2,c3,c4,c5] 29)).alloc (nC zV.toArray 29));have H0:Chg w w0 []:=by rw[af];exact((Chg.refl w []).alloc _).alloc _
 have aj:Hid (uj w w.heap.size (w.heap.size+1) F0 t [] [c0,c1,c2,c3,c4,c5] F0 (nS nN 0 0) [] (fun _=>False) w0):=Lib.hid
  ⟨H0,by rw[af];exact(Ac.new w _ _).alloc _,by rw[af];exact BD _ _ zV _ _ rfl Zh,AL.kept (H0.keepsF v) (fun _ h=>h) _ _ hv,fun b d=>⟨.inl d,Q6 (v b d) H0.size⟩,EW.none w w0,fun b d=>d.elim⟩
 clear hR c hs hv v hf X aD aE H0;go_enter func9,ntmps9;go_upto_region 1 with(fail);change Code.wp _ _ _ _ ((w.alloc (nC #[c0,c1,c2,c3,c4,c5] 29)).alloc (nC zV.toArray 29));rw[<-af];clear af;obtain⟨A,hA⟩:=Ue w.heap.size
 obtain⟨R,aX⟩:=Ue (w.heap.size+1);have P:=UD (w.heap.size<=A/\A<R) ⟨Zj,Zj⟩;rw[<-aX]at aj|-;rw[<-hA]at aj|-;clear hA aX;go_wp2_with fail;go_loopw [8,9] (fun v8 v9 wr=>∃(i:Nat) (H:Tr) (u:List CW) (ds:List Vl) (F:Nat->Prop) (ys:List Vl) (G:Nat->Prop),i<=n/\v9= nI nX i/\uj w A R F0 H u ds F v8 ys G wr/\BR t [] 0 (r.take i)= .yes H u) (fun _ v9 _=>n-(intOf v9).toNat)
 case atStart=>exact⟨0,_,_,_,_,_,_,Zj,rfl,aj.o,rfl⟩
 case round=>
  obtain⟨i,H,u,ds,F,ys,G,hi,rfl,ap,ao⟩:=hrel;have f:=hZ ap;have az:=hZ ao;have bA:u.length<=2*i:=by have:=Sa ao;rw[Ql]at this;simp at this;omega
  have bf:=UD (Bt H) (KD bg.o (fun o x=>(HS.o o (List.mem_of_mem_take x)).toB) ao);have X:=E7 ap.val;obtain⟨d0,d1,d2,d3,d4,d5,rfl⟩:=kt X.2;have av:=hZ X;obtain⟨qa,qc,rfl,_⟩:=ap.ops.row.form;rw[List.length_map]at f|-;obtain⟨I,L⟩:=Ue u.length;have aR:=hZ L;rw[<-L]at f bA|-;clear ap ao aj X L;by_cases bT:i<n
  .obtain⟨o,x⟩:∃o,r[i]? =nM o:=⟨_,Q9 z4b⟩;obtain⟨b,C,rfl,_⟩:=HR.o.base z4b ZM;obtain⟨sv,yv,aF,a6,ad⟩:=Cc.item HR.o z4b HI.o x;obtain⟨aq,ar,rfl,_⟩:=aF.form;have bc:=UD (w.cell? ⟨b,C+i*4,nN⟩=nM (nI nX o.kind)) (ad 0 _ rfl);have bd:=UD (w.cell? ⟨b,C+i*4+1,nN⟩=nM (nG o.path)) (ad 1 _ rfl);have be:=UD (w.cell? ⟨b,C+i*4+2,nN⟩=nM (nG o.frm)) (ad 2 _ rfl);have aJ:=UD (w.cell? ⟨b,C+i*4+3,nN⟩=nM (nS aq o.steps.length ar)) (ad 3 _ rfl);have a1:=HS.o o (Qi x);have HO:=hZ x
   have aw:=UD (∀wx,Chg wr wx []->Cl prog 26 #[nA #[d0,d1,d2,d3,d4,d5],nA #[nI nX o.kind,nG o.path,nG o.frm,nS aq o.steps.length ar]] wx (sN F [d0,d1,d2,d3,d4,d5] (Gz H o) wx)) fun wx hx=>
    t7 H o F _ _ yv wx (AL.kept (hx.keepsF (fun b d=>(f.o.lt b d).2)) (fun _ h=>h) _ _ f.o.val) (fun b d=>Q6 (f.o.lt b d).2 hx.size) bf.o a1 (aF.kept (f.o.chg.trans hx)) (Az.kept (f.o.chg.trans hx) a6)
   obtain⟨dr,aB⟩:=Ue (Gz H o);have ag:=hZ aB;rw[<-aB]at aw;obtain⟨m,q⟩:=Ue o.steps.length;rw[<-q]at aJ aw;have aL:=UD (∀b,F b->b<wr.heap.size) fun b d=>(f.o.lt b d).2;have bQ:(0:Int)<=(i:Int):=Zj;have bR:(i:Int)<(n:Int):=Zj;clear x aF a6 ad a1 aB q;go_upto_region 7 with(fail);refine uW (uo wr F [d0,d1,d2,d3,d4,d5] dr (uu (nA #[d0,d1,d2,d3,d4,d5]) (nS (nM ⟨b,C,nN⟩) n sc) (nP (nM ⟨b,C+i*4,nN⟩)) (nA #[nI nX o.kind,nG o.path,nG o.frm,nS aq m ar]) i)) ?_ ?_ ?_
   .intro ii op a wa E x v L bx bP c K l;obtain⟨J,O,N,g,FB,c⟩:=c;have j:=fun k=>bx ⟨k,.data⟩;match ii,x with
    |0,rfl=>
     have h2:rS a 2=(nP (nM ⟨A,0,nN⟩)):=v.at 2 Yb;obtain⟨ga,gb,g0,g1,g2,g3,g4,g5⟩:=(f.o.box.kept c.chg).cells6;exact z3z
    |1,rfl=>
     have h1:rS a 1=(nS (nM ⟨b,C,nN⟩) n sc):=v.at 1 Yb;exact z3z
    |2,rfl=>
     have h9:rS a 9=(nI nX i):=v.at 9 Yb;exact z3z
    |3,rfl=>
     have bH:rS a 25=(nS (nM ⟨b,C,nN⟩) n sc):=c.vals 1 (j 1 Zh rfl);have bI:rS a 26=(nI nX i):=c.vals 2 (j 2 Zh rfl);exact z3z
    |4,rfl=>
     have bJ:rS a 27=(nP (nM ⟨b,C+i*4,nN⟩)):=c.vals 3 (j 3 Zh rfl);have an:=(f.o.chg).trans c.chg;have e0:=an.keeps bc.o;have e1:=an.keeps bd.o;have e2:=an.keeps be.o;have e3:=an.keeps aJ.o;exact z3z
    |5,rfl=>
     have bG:rS a 24=(nA #[d0,d1,d2,d3,d4,d5]):=c.vals 0 (j 0 Zh rfl);have bK:rS a 28=(nA #[nI nX o.kind,nG o.path,nG o.frm,nS aq m ar]):=c.vals 4 (j 4 Zh rfl);go_simp;go_at_call 26;refine(aw.o wa c.chg).mono ?_;intro e w6 he;obtain⟨bF,b0,Z,rfl,bz,al,bw⟩:=sN.tell av.o he;exact l _ _ Zh ⟨_,_,_,_,_,c.gave L bw bz al⟩
    |6,rfl=>
     have bL:rS a 29=(nT #[nA J.toArray,O,nI nX N]):=c.vals 5 (j 5 Zh rfl);have p:E 5=true:=j 5 Zh rfl;exact z4a
    |7,rfl=>
     exact z3y
    |8,rfl=>
     exact z3y
    |9,rfl=>
     exact z3y
    |10,rfl=>
     go_simp;exact l _ _ Zh ⟨_,_,_,_,_,c.box aL.o L⟩
    |11,rfl=>
     have ak:a.tmps.getD 10 undef=(nP (nM ⟨g,0,nN⟩)):=c.vals 10 (j 10 Zh rfl);have br:a.tmps.getD 30 undef=(nA J.toArray):=c.vals 7 (j 7 Zh rfl);have aY:=j 10 Zh rfl;have p:E 5=true:=c.wait 7 (j 7 Zh rfl) ZM ZM;obtain⟨_,W,_⟩:=c.call p;rw[Qr ZN];refine Gj _ _ _ rfl g J (by simpa[Act.eval]using ak) (by simpa[Act.eval]using br) 29 zV (c.bx1 aY L) (by rw[W.2];exact A9) (by rw[W.2];rfl) W.1 ?_;intro w7 bY bt bu;exact l undef _ (fun _=>rfl) ⟨_,_,_,_,_,c.sto aL.o p aY bt bu⟩
    |12,rfl=>
     have bM:rS a 31=O:=c.vals 8 (j 8 Zh rfl);have p:E 5=true:=c.wait 8 (j 8 Zh rfl) ZM ZM;exact z4a
    |13,rfl=>
     have bN:rS a 32=(nI nX N):=c.vals 9 (j 9 Zh rfl);have p:E 5=true:=c.wait 9 (j 9 Zh rfl) ZM ZM;exact z4a
    |_+14,x=>exact absurd x Zh
   .intro a w8 E v B c;obtain⟨J,O,N,g,FB,c⟩:=c;have ak:a.tmps.getD 10 undef=(nP (nM ⟨g,0,nN⟩)):=c.vals 10 (B 10 ZM);have aV:a.tmps.getD 11 undef=O:=c.vals 12 (B 12 ZM);have al:a.tmps.getD 12 undef= nI nX N:=c.vals 13 (B 13 ZM);obtain⟨aZ,W,a0⟩:=c.call (B 5 ZM);have bb:=hZ (c.bx2 (B 11 ZM)).2;have aC:=c.bx0 (B 10 ZM);have Q:=hZ c.chg;have bE:=hZ aC;have bD:=hZ aC.1;have bC:=hZ (c.dif (B 5 ZM) (B 10 ZM));have aK:=hZ aZ;have D:=hZ a0;have aH:=hZ W;clear c B aZ W a0 aC;obtain⟨fu,hu,rfl⟩:=v.fin2 [24,25,26,27,28,29,23,30,31,32,10,11,12] Yb;have a7:=(hu 10).symm.trans ak;have a8:=(hu 11).symm.trans aV;have a9:=(hu 12).symm.trans al;clear v hu ak aV al;rw[a7,a8,a9];clear a7 a8 a9;obtain⟨y0,y1,y2,y3,y4,y5,rfl⟩:=kt aH.o.2;have aI:=hZ (f.o.box.kept Q.o);have aP:=hZ (f.o.res.kept Q.o);cases dr with
    |no e=>
     obtain⟨_,rfl,rfl⟩:=aK.o;have he:e≠0:=Zq ag.o.symm;have bV:((e:Int) !=0)=true:=bne_iff_ne.2 Zj;have ay:=UD (rr= .no e i) (aQ.o.trans (by have:=am az.o HO.o ag.o.symm;rw[Nat.zero_add]at this;exact this));have T:=hZ av.o.1;clear he
     go_wp2_with(first
      |(refine uN aI.o ?_)
      |(refine uO aP.o T.o ?_;intro wz au S))
     refine bodyPost_ret (uT au.o) rfl ?_;rw[ay.o];exact⟨⟨_,T.o,rfl,rfl⟩,Chg.fresh (f.o.chg.trans Q.o) S.o (fun y M=>by have:=P.o;simp at M;omega)⟩
    |yes t1 u1=>
     obtain⟨rfl,F1,G1,zs,q1,q2,q3,q4,q5,q6⟩:=aK.o;have bn:=hZ q1;have aa:=hZ q2;obtain⟨ea,ec,rfl,_⟩:=q3.form;have a5:u1.length<=2:=Yo ag.o.symm;have bj:=UD (EW w w8 (u1.map CW.toI) (nS ea (u1.map CW.toI).length ec) zs G1) ⟨q3,q4,q5,fun b d=>⟨Q7 f.o.chg.size (D.o b (q6 b d)).1,(D.o b (q6 b d)).2⟩⟩;have aM:=UD (∀b,G1 b->R<b) fun b d=>Q6 f.o.res.lt (D.o b (q6 b d)).1;have bk:=UD (BR t [] 0 (r.take (i+1))= .yes t1 (u1++u)) (Vu az.o HO.o ag.o.symm);have T:=hZ aH.o.1;clear q1 q2 q3 q4 q5 q6
     go_upto_region 11 with(first
      |(refine uN bb.o ?_)
      |(refine uO aI.o T.o ?_;intro s ba U))
     have aS:=UD (Chg w s []) (Chg.fresh (f.o.chg.trans Q.o) U.o (fun y M=>by have:=P.o;simp at M;omega));have ai:=UD (EW w s (u1.map CW.toI) (nS ea (u1.map CW.toI).length ec) zs G1) (EW.kept bj.o U.o (fun b q d=>by have h1:=aM.o b d;have h2:=P.o;simp at q;omega) (Q8 _));have ax:=UD (EW w s (u.map CW.toI) (nS qa I qc) ys G) (EW.kept (EW.kept f.o.ops Q.o Zh (Q8 _)) U.o (fun b q d=>by have h1:=f.o.far b d;have h2:=P.o;simp at q;omega) (Q8 _));obtain⟨z,ae⟩:=Ue ((u1.map CW.toI).length);have bX:z<=2:=by rw[ae,List.length_map];exact a5
     have bo:=hZ ae;have a2:As s (nS ea z ec) 4 z zs:=by rw[ae];exact ai.o.row
     have a3:As s (nS qa I qc) 4 I ys:=by have:=ax.o.row;rw[List.length_map]at this;rw[aR.o]at*;exact this
     have bl:=hZ a2;have bm:=hZ a3;have bq:=hZ ai.o.ops.one;have bp:=hZ ax.o.ops.one;rw[<-ae]at ai|-;have bW:I<=131072:=Zj;clear a2 a3 ae a5
     go_upto_region 6 with(first
      |(at_builtin;(refine Fs rfl _ _ 23 rfl 42 _ 4 64 ZM underlying23 JK rfl (nS (nM ⟨s.heap.size,0,nN⟩) 0 0) 0 [] ZN (by exact Z2 s 42 4) z zs (nS ea z ec) ZN (by exact bl.o.kept ((Chg.refl s []).alloc _)) bq.o Zj Zj ?_;intro q1 aT wf Y Z k3;rw[Nat.zero_add,List.nil_append]at Y;rw[Nat.zero_add]at k3|-;have bh:=hZ Y;have aA:=UD (Chg s wf []) (tM Z);have aN:=UD (∀g,(Vl.slice q1 z aT).ownBlock=nM g->s.heap.size<=g) (sG k3);clear Y Z k3))
      |(at_builtin;(refine Fs rfl _ _ 23 rfl 42 _ 4 64 ZM underlying23 JK rfl (nS q1 z aT) z zs ZN (by exact bh.o) I ys (nS qa I qc) ZN (by exact bm.o.kept aA.o) bp.o Zj Zj ?_;intro q2 aU wg Y Z k3;have bi:=hZ Y;have V:=UD (Chg s wg []) (Chg.fresh aA.o Z (fun y M=>aN.o y (by simpa using M)));have aO:=UD (∀g,(Vl.slice q2 (z+I) aU).ownBlock=nM g->s.heap.size<=g) (tp aN.o aA.o.size k3);clear Y Z k3)))
     go_wp2_with fail;go_roundw
     case rel=>
      have ab:=f.o.lt;have bO:=f.o.res.lt;have bv:=P.o;have aG:=Q.o.size;have bB:=U.o.size;have bZ:=V.o.size
      have bs:∀b,F1 b->b≠A:=fun b d e=>by
       rcases aa.o b d with h|h
       .rcases(ab b h).1 with h|h
        .have:=HF.o b h;omega
        .omega
       .have:=(D.o b h).1;omega
      refine⟨i+1,t1,u1++u,[y0,y1,y2,y3,y4,y5],F1,zs++ys,(fun b=>(G1 b\/G b)\/(Vl.slice q2 (z+I) aU).ownBlock=nM b),Zj,by go_num,⟨aS.o.trans V.o,ba.o.kept V.o,(aP.o.kept U.o (by simp;omega)).kept V.o, ?_,fun b d=> ?_, ?_, ?_⟩,bk.o⟩
      .exact AL.kept (V.o.keepsF (fun b d=>Q6 (rN aa.o ab D.o aG b d) bB)) (fun _ h=>h) _ _ (AL.kept (U.o.keepsF (rN aa.o ab D.o aG) (fun b q d=>bs b d (List.mem_singleton.1 q))) (fun _ h=>h) _ _ bn.o)
      .have h8:=rN aa.o ab D.o aG b d;refine⟨?_,Zj⟩;rcases aa.o b d with h|h
       .exact(ab b h).1
       .have:=(D.o b h).1;exact .inr Zj
      .rw[List.map_append];exact rV ai.o ax.o V.o aS.o.size (by rw[List.length_map,List.length_map,<-aR.o];have h1:=bo.o;rw[List.length_map]at h1;rw[<-h1];exact bi.o) aO.o
      .rintro b ((d|d)|d)
       .exact aM.o b d
       .exact f.o.far b d
       .have:=aO.o b d;omega
     case measure=>simp[intOf];omega
   .exact⟨_,_,_,_,_,uC.start _ _ _ _ _ _ (Chg.refl _ _).drew⟩
  .have bU:¬(i:Int)<(n:Int):=by omega
   have e1:i=n:=Zj;subst e1;have a4:r.take i=r:=Qn z4b;have ay:=UD (rr= .yes H u) (aQ.o.trans (by have:=az.o;rw[a4]at this;exact this));have T:=hZ av.o.1;clear a4
   go_wp2_with(first
    |(refine uN f.o.box ?_)
    |(refine uO f.o.res T.o ?_;intro wz au S))
   refine bodyPost_ret (uT au.o) rfl ?_;rw[ay.o];have bv:=P.o;refine⟨⟨F,_,_,ys,G,rfl,AL.kept (S.o.keepsF (fun b d=>(f.o.lt b d).2) (fun b q d=> ?_)) (fun _ h=>h) _ _ f.o.val,fun b d=>Q6 (f.o.lt b d).2 S.o.size,EW.kept f.o.ops S.o (fun b q d=> ?_) (Q8 _)⟩,Chg.fresh f.o.chg S.o (fun y M=>by simp at M;omega)⟩
   .have e:=List.mem_singleton.1 q;rcases(f.o.lt b d).1 with h|h
    .have:=HF.o b h;omega
    .omega
   .have e:=List.mem_singleton.1 q;have:=f.o.far b d;omega
end
section
open _root_.Go.Proofs.Tryz
open Go Go.Shelf Go.RowKit Go.Lib
theorem z4c{p:Prop}(h:p:=by go_enter func13,ntmps13;go_wp2_with fail;go_ret;exact⟨rfl,Chg.refl _ _⟩):p:=h
theorem jK(a:Int)(w:Wl):Cl prog 13 #[.nilIface,nI nX 0,nI nX a] w (BU true w):=by
 exact z4c
theorem iR(k a:Int)(c:k≠0)(b:a<0)(w:Wl):Cl prog 13 #[nF 74 (nI nX k),nI nX k,nI nX a] w (BU true w):=by
 have d:(k==0)=false:=by simpa using c
 have e:decide (a<0)=true:=decide_eq_true b;have f:(k==k)=true:=Zh;have g:∀w:Wl,(Instr.typeAssert (nF 74 (nI nX k)) 35 74 true).run prog w= .ok (nT #[nI nX k,.bool true]) w:=fun _=>Yb;exact z4c
theorem iE(k i:Int)(a:k≠0)(hi:0<=i)(w:Wl):Cl prog 13 #[Hk k i,nI nX k,nI nX i] w (BU true w):=by
 have b:(k==0)=false:=by simpa using a
 have c:decide (i<0)=false:=decide_eq_false Zj;have d:(k==k)=true:=Zh;have e:∀w:Wl,(Instr.typeAssert (nF 77 (nA #[nI nX k,nI nX i])) 35 77 true).run prog w= .ok (nT #[nA #[nI nX k,nI nX i],.bool true]) w:=fun _=>Yb;unfold Hk;go_enter func13,ntmps13;go_wp2_with fail;go_ret;exact⟨rfl,(Chg.refl _ _).alloc _⟩
end
theorem tOp0:True:=trivial
end Go.Proofs.YtpdnhfkacgdocaaGreatDoor

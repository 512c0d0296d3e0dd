/- Part 25 of the proof of both cards. -/
import Derived.Test.YtpdnhfkacgdocaaGreatDoorM24
set_option maxRecDepth 100000
set_option maxHeartbeats 32000000
set_option linter.all false
namespace Go.Proofs.YtpdnhfkacgdocaaGreatDoor
open Go renaming Calls->Cl,Value->Vl,World->Wl
open Go.Value renaming agg->nA,int->nI,pointer->nP,slice->nS,string->nG
open Go.IntKind renaming i64->nX
open Go.Ending renaming returned->nR
open Go.Obj renaming cells->nC
open Option renaming none->nN,some->nM
section
open _root_.Go.Proofs.Tryz
open Go Go.Shelf Go.RowKit Go.Lib Tree Ptr
variable{s:BY}{o:Bq}{p:Prop}
theorem pI(c:s.size<=16777216):(qh s).length<=65536/\∀u∈qh s,u.size<=16777216:=by
 unfold qh;cases b:AD s with
 |none=>exact⟨Nat.zero_le _,fun u a=>by cases a⟩
 |some ts=>exact⟨NK b,fun u a=>Q7 (Lf b u a) c⟩
theorem pM(h:AD s≠nN):AD s=nM (qh s):=by
 unfold qh;cases a:AD s with
 |none=>exact absurd a h
 |some ts=>rfl
theorem qb(a:Bn o=0):AD o.path≠nN:=fun h=>by
 unfold Bn at a;split at a
 .cases a
 .rw[Qr (.inl h)]at a;cases a
theorem qw(a:Bn o=0)(b:AO o.kind=true):AD o.frm≠nN:=fun h=>by
 unfold Bn at a;split at a
 .cases a
 .rw[Qr (.inr ⟨b,h⟩)]at a;cases a
theorem qd(a:Bn o=0)(c:AN o.kind=true):∃x,AS o.steps=nM x:=by
 cases b:AS o.steps with
 |some x=>exact⟨x,rfl⟩
 |none=>
  exfalso
  unfold Bn at a;rw[b]at a;split at a
  .cases a
  .split at a
   .cases a
   .rw[Qr ⟨c,rfl⟩]at a;cases a
theorem sZ(a:Bn o=0):o.kind=1\/o.kind=2\/o.kind=3\/o.kind=4\/o.kind=5\/o.kind=6:=by
 unfold Bn at a;split at a
 .cases a
 .omega
def tF(F:Nat->Prop)(R:Nat)(P:Nat)(a:BY)(u b:Tr)(i:Option Addr)(n k:Nat)(c c1 d c3 c4 c5:Vl)(l m o p q r:Vl)(l0 e f g l4 h:Vl)(j:Nat)(y:Vl)(O:Nat->Prop)(w:Wl):Prop:=match j with
 |0=>y=(nA #[c,c1,d,c3,c4,c5])
 |1=>y=(nS i n k)
 |2=>y=(nA #[l,m,o,p,q,r])
 |3=>sQ F b y O w
 |4=>y=(nP (nM ⟨P,1,nN⟩))
 |5=>y=(nG a)
 |6=>y=(nA #[l0,e,f,g,l4,h])
 |7=>tH u y O w
 |8=>sR (⟨1,a,⟨#[]⟩,MW u⟩:Bq) y O w
 |9=>qg [(⟨1,a,⟨#[]⟩,MW u⟩:Bq)] y O w
 |10=>sS F R b O w
 |11=>qg [(⟨1,a,⟨#[]⟩,MW u⟩:Bq)] y O w
 |12=>y=(nI nX 0)
 |_=>True
def tU(k:Nat):Option Nat:=if k=3 then nM 10 else if k=7 then nM 8 else if k=8 then nM 9 else if k=9 then nM 11 else nN
def sm(R:Nat)(b:Nat):Option Nat:=if b=R then nM 10 else nN
theorem tF.stays(f:Wl)(F:Nat->Prop)(R:Nat)(P:Nat)(r:BY)(u t:Tr)(q:Option Addr)(n s:Nat)(g c1 i c3 c4 c5:Vl)(v x z A B C:Vl)(l0 l m o l4 p:Vl)(d:∀b,F b->b<f.heap.size/\b≠R):pR f (sm R) (tF F R P r u t q n s g c1 i c3 c4 c5 v x z A B C l0 l m o l4 p):=fun k y O w w' h a j=>by
 have c:∀b,F b->w'.heap[b]? =w.heap[b]? :=fun b e=>j b (d b e).1 (Qs (d b e).2);match k,h with
 |0,h=>exact h
 |1,h=>exact h
 |2,h=>exact h
 |3,h=>exact sQ.same h a c
 |4,h=>exact h
 |5,h=>exact h
 |6,h=>exact h
 |7,h=>exact tH.same h a
 |8,h=>exact sR.same h a
 |9,h=>exact qg.same h a
 |10,h=>exact sS.same h a c
 |11,h=>exact qg.same h a
 |12,h=>exact h
 |_+13,h=>exact h
def t9(P:Nat)(a:BY)(u:Tr)(l0 b c d l4 e:Vl)(j:Nat)(y:Vl)(O:Nat->Prop)(w:Wl):Prop:=match j with
 |0=>y=(nP (nM ⟨P,1,nN⟩))
 |1=>y=(nG a)
 |2=>y=(nA #[l0,b,c,d,l4,e])
 |3=>tH u y O w
 |4=>sR (⟨3,a,⟨#[]⟩,MW u⟩:Bq) y O w
 |5=>qg [(⟨3,a,⟨#[]⟩,MW u⟩:Bq)] y O w
 |6=>qg [(⟨3,a,⟨#[]⟩,MW u⟩:Bq)] y O w
 |_=>True
def ud(k:Nat):Option Nat:=if k=3 then nM 4 else if k=4 then nM 5 else if k=5 then nM 6 else nN
def ur(b:Nat):Option Nat:=nN
theorem t9.stays(g:Wl)(P:Nat)(f:BY)(u:Tr)(l0 b c d l4 e:Vl):pR g (ur) (t9 P f u l0 b c d l4 e):=fun k y O w w' h a i=>by
 match k,h with
 |0,h=>exact h
 |1,h=>exact h
 |2,h=>exact h
 |3,h=>exact tH.same h a
 |4,h=>exact sR.same h a
 |5,h=>exact qg.same h a
 |6,h=>exact qg.same h a
 |_+7,h=>exact h
def tV(P:Nat)(frm:BY)(u:Tr)(oA:Bq)(g:Option Addr)(n h:Nat)(i k l m o p:Vl)(a b c d e f:Vl)(j:Nat)(y:Vl)(O:Nat->Prop)(w:Wl):Prop:=match j with
 |0=>y=(nA #[i,k,l,m,o,p])
 |1=>y=(nS g n h)
 |2=>sR oA y O w
 |3=>y=(nP (nM ⟨P,2,nN⟩))
 |4=>y=(nG frm)
 |5=>y=(nA #[a,b,c,d,e,f])
 |6=>tH u y O w
 |7=>sR (⟨1,frm,⟨#[]⟩,MW u⟩:Bq) y O w
 |8=>qg [oA,(⟨1,frm,⟨#[]⟩,MW u⟩:Bq)] y O w
 |9=>qg [oA,(⟨1,frm,⟨#[]⟩,MW u⟩:Bq)] y O w
 |_=>True
def tW(k:Nat):Option Nat:=if k=2 then nM 8 else if k=6 then nM 7 else if k=7 then nM 8 else if k=8 then nM 9 else nN
def ut(b:Nat):Option Nat:=nN
theorem tV.stays(l:Wl)(P:Nat)(frm:BY)(u:Tr)(oA:Bq)(i:Option Addr)(n j:Nat)(m o p q r s:Vl)(b c d e f g:Vl):pR l (ut) (tV P frm u oA i n j m o p q r s b c d e f g):=fun k y O w w' h a t=>by
 match k,h with
 |0,h=>exact h
 |1,h=>exact h
 |2,h=>exact sR.same h a
 |3,h=>exact h
 |4,h=>exact h
 |5,h=>exact h
 |6,h=>exact tH.same h a
 |7,h=>exact sR.same h a
 |8,h=>exact qg.same h a
 |9,h=>exact qg.same h a
 |_+10,h=>exact h
theorem z3b(h:p:=by
 go_wp2_with(first
  |(refine uN d.o.a ?_)
  |(refine uO d.o.r ak.o ?_;intro I J U))
 refine bodyPost_ret (uR J.o) rfl ?_;have E:Chg w I []:=Chg.fresh (ad.o.trans l.o) U.o (fun y p=>by have:=C.o;simp at p;omega);rw[f.o];exact⟨rfl,E⟩):p:=h
theorem z3r(h:p:=by simpa using f.o):p:=h
theorem z3f(h:p:=by
 have f:=UD (ar= .no 3) z3r
 go_upto_region 46 with(first
  |(refine uN D.o ?_)
  |(go_at_call 50;refine aS.o.mono ?_;rintro e bj ⟨rfl,g⟩;have ao:=hZ g;clear g))
 have l:=UD (Chg B bj []) (l.o.trans ao.o);have d:=hZ (d.o.kept ao.o)
 exact z3b):p:=h
theorem z3c(h:p:=by
 have bV:=(hu 20).symm.trans br;clear hF hu br;simp only[List.foldl_cons,List.foldl_nil,Act.put,List.setIfInBounds_toArray,List.set_cons_zero,List.set_cons_succ,bV]at bQ;subst bQ;clear bV;have aS:=UD (Cl prog 50 #[nA #[y0,y1,y2,y3,y4,y5]] V fun e w'=>e= nR (.bool (Ag S).within)/\Chg V w' []) (Ex S FY _ V aG.o.nodes aG.o.bytes aG.o.depth aw.o (fun b c=>(ae.o b c).2));have be:Kj S us=if(Ag S).within=true then .yes S us else .no 3:=rfl;have f:=hZ (f.o.trans be);obtain⟨wi,bi⟩:=Ue ((Ag S).within);rw[<-bi]at aS f;clear bi be;cases wi with
 |false=>
  exact z3f
 |true=>
  have f:=UD (ar= .yes S us) z3r
  go_wp2_with(first
   |(refine uN D.o ?_)
   |(go_at_call 50;refine aS.o.mono ?_;rintro e bj ⟨rfl,g⟩;have ao:=hZ g;clear g)
   |(refine uN (D.o.kept ao.o) ?_)
   |(refine uO (d.o.r.kept ao.o) a9.o ?_;intro I J U))
  refine bodyPost_ret (uR J.o) rfl ?_;have aC:Chg V I [R]:=(ao.o.none _).trans U.o;have E:Chg w I []:=Chg.fresh (ad.o.trans l.o) aC (fun y p=>by have:=C.o;simp at p;omega);rw[f.o];exact⟨FY,_,_,_,_,rfl,AL.kept (aC.keepsF (fun b c=>(ae.o b c).2) (fun b hm c=>bF.o b c (List.mem_singleton.1 hm))) (fun _ h=>h) _ _ aw.o,fun b c=>⟨(ae.o b c).1,Q6 (ae.o b c).2 aC.size⟩,EW.kept bc.o aC (fun b hm c=>bH.o b c (List.mem_singleton.1 hm)) (Q8 _),E⟩):p:=h
theorem z3d(h:p:=by go_simp;exact hK _ _ Zh (i.val f.o z rfl)):p:=h
theorem z3e(h:p:=by
 go_wp2_with(first
  |(refine uN d.o.a ?_)
  |(refine uO d.o.r ak.o ?_;intro I J U))
 refine bodyPost_ret (uR J.o) rfl ?_;have E:Chg w I []:=Chg.fresh (ad.o.trans l.o) U.o (fun y p=>by have:=C.o;simp at p;omega);rw[f.o];exact⟨F,_,_,[],fun _=>False,rfl,AL.kept (E.keepsF HF.o) (fun _ h=>h) _ _ cH.o,fun b c=>⟨.inl c,Q6 (HF.o b c) E.size⟩,EW.none w I,E⟩):p:=h
theorem z3g(h:p:=by
 have g:=C.o;rcases(al.o b c).1 with(h|h)|h
 .have:=HF.o b h;omega
 .exact bm.o b h e
 .have:=d.o.r.lt;omega):p:=h
theorem z3h(h:p:=by have av:Chg T m []:=i.chg [] (fun b k g _=>by cases g);go_simp;go_at_call 27;refine(bM.o m (l.o.trans av)).mono ?_;rintro e w6 ⟨sv,ys,G,rfl,q,v,k3,k4,h6⟩;exact hK _ _ Zh (i.new f.o z h6 (O':=G) ⟨ys,q,v,k3⟩ k4)):p:=h
theorem z3i(h:p:=by rw[e];exact List.mem_singleton.2 rfl):p:=h
theorem z3j(h:p:=by have:=C.o;have:=au.o;intro b c;simp at c|-;omega):p:=h
theorem z3k(h:p:=by have av:Chg T m []:=i.chg [] (fun b k g _=>by cases g);obtain⟨ga,gb,g0,g1,g2,g3⟩:=(d.o.p.kept av).cells4;exact z3d):p:=h
theorem z3l(h:p:=by have:=bp.o.path;omega):p:=h
theorem z3m(h:p:=by rw[bO.o];exact⟨q,v,k3,fun b c=>⟨Q7 (ad.o.trans l.o).size (bo.o b c).1,(bo.o b c).2⟩⟩):p:=h
theorem z3n(h:p:=by have h3:rS a 3=(nP (nM ⟨P,0,nN⟩)):=hF.at 3 Yb;exact z3d):p:=h
theorem z3o(h:p:=by unfold Da;rw[H,<-ah.o];rfl):p:=h
theorem z3p(h:p:=by exact⟨_,uB.start _ _ _ _ _ (Chg.refl _ _).drew⟩):p:=h
theorem z3q(h:p:=by rw[hQ];have:=C.o;omega):p:=h
theorem z3s(h:p:=by have:=C.o;simp;omega):p:=h
theorem z3t(h:p:=by
 have l:=UD (Chg B wm []) (l.o.trans ay.o);have d:=hZ (d.o.kept ay.o)
 exact z3b):p:=h
theorem z3u(h:p:=by rw[ap];exact fun b c=>⟨.inr (a7.o b c).1,(a7.o b c).2⟩):p:=h
theorem z3v(h:p:=by
 go_upto_region 16 with(fail)
 exact z3b):p:=h
theorem z3w(h:p:=by have:=(aO.o b c).2;have:=C.o;have:=au.o;omega):p:=h
theorem z3x(h:p:=by have g:=(bo.o b c).1;have h2:=d.o.r.lt;omega):p:=h
theorem uz(t:Tr)(o:Bq)(F:Nat->Prop)(cs:List Vl)(sv:Vl)(ys:List Vl)(w:Wl)(ha:Bn o=0)(W:AL w F t cs)(hF:∀b,F b->b<w.heap.size)(hf:Bt t)(i:T7 o)(hR:As w sv 6 o.steps.length ys)(hS:Az w o.steps ys):
  Cl prog 26 #[nA cs.toArray,nA (BJ o sv).toArray] w (sN F cs (Gz t o) w):=by
 obtain⟨sa,sc,rfl,_⟩:=hR.form;have cZ:=E7 W;have ak:=hZ cZ.1;obtain⟨c0,c1,c2,c3,c4,c5,rfl⟩:=kt cZ.2;have HF:=hZ hF;have cH:=hZ W;have aA:=hZ hf
 have df:=UD (∀j,Chg w j []->Cl prog 42 #[nA #[nI nX o.kind,nG o.path,nG o.frm,nS sa o.steps.length sc]] j fun e w'=>e= nR (nI nX 0)/\Chg j w' []) fun j r=>by
  have:=jn o _ ys j i (hR.kept r) (hS.kept r);rw[ha]at this;exact this
 obtain⟨ts,aK⟩:=Ue (qh o.path);obtain⟨ax,bS⟩:=Ue (qh o.frm);have dQ:ts.length<=65536/\∀s∈ts,s.size<=16777216:=by rw[aK];exact pI i.path
 have dP:ax.length<=65536/\∀s∈ax,s.size<=16777216:=by rw[bS];exact pI i.frm
 have aP:=UD (AD o.path=nM ts) (by rw[aK];exact pM (qb ha));have cw:=UD (AO o.kind=true->AD o.frm=nM ax) fun h=>by rw[bS];exact pM (qw ha h)
 have cu:=hZ fun j=>pL o.path j i.path;have cv:=hZ fun j=>pL o.frm j i.frm;have dD:=hZ fun j (r:Chg w j [])=>qj o.steps _ ys j (hR.kept r) (hS.kept r) i.steps i.len;have ba:=hZ i.steps;have bp:=hZ i;rw[<-aK]at cu;rw[<-bS]at cv
 have cr:=UD (∀j ps sl,Chg w j []->ps.length<=65536/\(∀s∈ps,s.size<=16777216)->As j sl 1 ps.length (Ad ps)->Cl prog 44 #[nA #[c0,c1,c2,c3,c4,c5],sl] j (pG F (Ah t ps) j)) fun j ps sl r hl hr=>
  pK t F _ ps _ j (AL.kept (r.keepsF hF) (fun _ h=>h) _ _ W) (fun b c=>Q6 (hF b c) r.size) hf hr hl.1 hl.2
 have am:=hZ dQ;have dp:=hZ dP;have di:=UD (Gz t o=Da t o ts ax ((AS o.steps).getD .null)) (by unfold Gz;rw[Qs Zj,aK,bS];rfl);have cj:=UD (AN o.kind=true->∃x,AS o.steps=nM x) (qd ha);rw[di.o];obtain⟨ar,cW⟩:=Ue (Da t o ts ax ((AS o.steps).getD .null));have aB:=hZ cW;rw[<-cW];obtain⟨w0,bC⟩:=Ue (((w.alloc (nC #[c0,c1,c2,c3,c4,c5] 29)).alloc (nC #[nI nX o.kind,nG o.path,nG o.frm,nS sa o.steps.length sc] 42)).alloc (nC zV.toArray 29));have H0:Hid (Chg w w0 []):=by rw[bC];exact hZ ((((Chg.refl w []).alloc _).alloc _).alloc _)
 have HA:Hid (Ac w0 w.heap.size [c0,c1,c2,c3,c4,c5] 29):=by rw[bC];exact hZ (((Ac.new w _ _).alloc _).alloc _)
 have HP:Hid (Ac w0 (w.heap.size+1) [nI nX o.kind,nG o.path,nG o.frm,nS sa o.steps.length sc] 42):=by rw[bC];exact hZ ((BD _ _ [nI nX o.kind,nG o.path,nG o.frm,nS sa o.steps.length sc] _ _ rfl Zh).alloc _)
 have HR:Hid (Ac w0 (w.heap.size+2) zV 29):=by rw[bC];exact hZ (BD _ _ zV _ _ rfl Zh)
 have d2:=hZ (sZ ha);clear hR hS i W cZ aK bS dQ dP ha hF hf cW;go_enter func26,ntmps26;go_upto_region 1 with(fail);change Code.wp _ _ _ _ (((w.alloc (nC #[c0,c1,c2,c3,c4,c5] 29)).alloc (nC #[nI nX o.kind,nG o.path,nG o.frm,nS sa o.steps.length sc] 42)).alloc (nC zV.toArray 29));rw[<-bC];clear bC;obtain⟨A,hA⟩:=Ue w.heap.size
 obtain⟨P,hP⟩:=Ue (w.heap.size+1);obtain⟨R,hR⟩:=Ue (w.heap.size+2);have bY:=UD (w.heap.size<=A/\A<P/\P<R) ⟨Zj,Zj,Zj⟩;rw[<-hR]at HR|-;rw[<-hP]at HP|-;rw[<-hA]at HA|-;clear hA hP hR
 go_upto_region 4 with(first
  |(refine uN HP.o ?_)
  |(go_at_call 42;refine(df.o _ H0.o).mono ?_;rintro e w1 ⟨rfl,g⟩;have H1:=hZ (H0.o.trans g);have dc:=hZ g;have y1:=(HP.o.kept g).cell 1;have y2:=(HP.o.kept g).cell 2;simp only[Qa,Qb]at y1 y2;clear g))
 go_upto_region 5 with((go_at_call 43;refine(cu.o _).mono ?_;rintro e w2 ⟨p1,Y,q,z1,rfl,hr,h2⟩;have dw:=hZ hr;have H2:=hZ (H1.o.trans h2);have ca:=hZ (dc.o.trans h2);clear y1;have y2:=h2.keeps y2;clear hr h2));go_upto_region 6 with((go_at_call 43;refine(cv.o _).mono ?_;rintro e w3 ⟨p2,q2,v,z2,rfl,hr,h3⟩;have dz:=hZ hr;have H3:=hZ (H2.o.trans h3);have dx:=hZ (dw.o.kept h3);have cb:=hZ (ca.o.trans h3);have y3:=(HP.o.kept (ca.o.trans h3)).cell 3;simp only[Qa,Qb]at y3;clear y2 hr h3))
 go_upto_region 7 with(first
  |(go_at_call 15;refine(dD.o _ H3.o).mono ?_;rintro e B ⟨Fx,x0,x1,x2,x3,x4,x5,bx,rfl,ho,r,hn,h4⟩;have bJ:=hZ ho;have HX:=hZ r;have b5:=hZ hn;have H4:=hZ (H3.o.trans h4);have cd:=hZ (cb.o.trans h4);have cD:=hZ (dx.o.kept h4);have cE:=hZ (dz.o.kept h4);clear y3 ho r hn h4)
  |(refine kM B bJ.o ?_;intro w5 ck a4))
 have H5:=UD (Chg w w5 []) (H4.o.trans a4.o);have cc:=UD (Chg w0 w5 []) (cd.o.trans a4.o);have dy:=hZ (cD.o.kept a4.o);have dA:=hZ (cE.o.kept a4.o)
 go_upto_region 8 with(first
  |(refine uN (HA.o.kept cc.o) ?_)
  |(go_at_call 44;refine(cr.o _ _ _ H5.o am.o dy.o).mono ?_;intro e w6 he;obtain⟨l0,l1,l2,l3,l4,l5,rfl,ho,hr,hc⟩:=oc he;have d5:=hZ ho;have du:=hZ hr;have a6:=hZ hc;clear he ho hr hc)
  |(refine kM w6 d5.o ?_;intro w7 cm bw))
 have H7:=UD (Chg w w7 []) (H5.o.trans (a6.o.trans bw.o));have cf:=UD (Chg w0 w7 []) (cc.o.trans (a6.o.trans bw.o));have dB:=hZ (dA.o.kept (a6.o.trans bw.o))
 go_upto_region 9 with(first
  |(refine uN (HA.o.kept cf.o) ?_)
  |(go_at_call 44;refine(cr.o _ _ _ H7.o dp.o dB.o).mono ?_;intro e V he;obtain⟨m0,m1,m2,m3,m4,m5,rfl,ho,hr,hc⟩:=oc he;have d6:=hZ ho;have dv:=hZ hr;have bE:=hZ hc;clear he ho hr hc)
  |(refine kM V d6.o ?_;intro w9 co cC))
 have bX:=UD (Chg w0 w9 []) (cf.o.trans (bE.o.trans cC.o));have cg:=UD (Chg w7 w9 []) (bE.o.trans cC.o);have ce:=UD (Chg w5 w9 []) ((a6.o.trans bw.o).trans cg.o);have l:=UD (Chg B w9 []) (a4.o.trans ce.o);have de:=hZ (HA.o.kept bX.o);have dq:=hZ (HP.o.kept bX.o);have dt:=hZ (HR.o.kept bX.o);have cl:=hZ (ck.o.kept ce.o);have cn:=hZ (cm.o.kept cg.o);have cp:=co;have aa:=UD (∀b,F b->b<B.heap.size) fun b c=>Q6 (HF.o b c) H4.o.size;have a7:=UD (∀b,Fx b->w.heap.size<=b/\b<B.heap.size) fun b c=>⟨Q7 H3.o.size (b5.o b c).1,(b5.o b c).2⟩
 have dk:=UD (∀b,Fx b->b≠R) fun b c e=>by
  have a1:=(b5.o b c).1;have a2:=HR.o.lt;have a3:=cb.o.size;omega
 have cI:=UD (∀x,AS o.steps=nM x->AL B Fx x [x0,x1,x2,x3,x4,x5]/\Bt x) fun x r=>⟨(HX.o x r).1,FD ba.o r⟩;have bv:=hZ (du.o.kept ((a4.o.trans a6.o).back aa.o));have bK:=hZ (dv.o.kept ((a4.o.trans ((a6.o.trans bw.o).trans bE.o)).back aa.o));have bz:=hZ (AL.kept (H4.o.keepsF HF.o) (fun _ h=>h) _ _ cH.o);have ch:=UD (R<B.heap.size) (Q6 HR.o.lt cd.o.size);have bs:=UD (B.heap.size<w6.heap.size/\w6.heap.size<V.heap.size) ⟨Q6 ck.o.lt a6.o.size,Q6 cm.o.lt bE.o.size⟩;have ci:=UD (V.heap.size<w9.heap.size) co.o.lt;obtain⟨X,hX⟩:=Ue B.heap.size;obtain⟨L,hL⟩:=Ue w6.heap.size;obtain⟨M,hM⟩:=Ue V.heap.size;have ab:=hZ hX;rw[<-hX]at cl ch bs aa a7|-;rw[<-hL]at cn bs|-;rw[<-hM]at cp bs ci|-;have C:=UD (w.heap.size<=A/\A<P/\P<R/\R<X/\X<L/\L<M/\M<w9.heap.size) ⟨bY.o.1,bY.o.2.1,bY.o.2.2,ch.o,bs.o.1,bs.o.2,ci.o⟩;have ad:=H4;have bq:=cD;have d7:=cE;have d:=UD (uF A P R X L M [c0,c1,c2,c3,c4,c5] [nI nX o.kind,nG o.path,nG o.frm,nS sa o.steps.length sc] [x0,x1,x2,x3,x4,x5] [l0,l1,l2,l3,l4,l5] [m0,m1,m2,m3,m4,m5] w9) ⟨de.o,dq.o,dt.o,cl.o,cn.o,cp.o⟩;clear hX hL hM de dq dt cl cn cp df cu cv dD cr di HA HP HR bY H0 H1 dc ca dw H2 dz H3 dx cb HX b5 H4 cd cD cE a4 ck H5 cc dy dA du a6 cm bw H7 cf dB dv bE cC co bX cg ce ch bs ci;obtain⟨pl,pf,r0,r1,r2,r3⟩:=d.o.p.cells4;rcases d2.o with H|H|H|H|H|H
 focus
  have HK:=hZ H;rw[H]at r0;have bb:=UD (DR ts) (PK aP.o z3l);obtain⟨x,r⟩:=cj.o (by rw[H];rfl);obtain⟨aL,bf⟩:=cI.o x r;have bg:Da t o ts ax ((AS o.steps).getD .null)=Ga t ts x []:=by rw[r];unfold Da;rw[Qr H];rfl
  have f:=hZ (aB.o.trans bg);obtain⟨FD,ap⟩:=Ue Fx;have b3:=UD (AL B FD x [x0,x1,x2,x3,x4,x5]) (by rw[ap];exact aL);have aO:=UD (∀b,FD b->(F b\/w.heap.size<=b)/\b<X) z3u;have bm:=UD (∀b,FD b->b≠R) (by rw[ap];exact dk.o);have dl:=hZ bf;have b0:=bJ;clear bg r aL bf ap H;go_upto_region 11 with(fail);go_upto_region 13 with(fail)
  go_upto_region 15 with(fail);go_upto_region 17 with(fail)
  go_upto_region 19 with(fail)
  go_upto_region 24 with(first
   |(refine uN d.o.a ?_)
   |(refine kM w9 ak.o ?_;intro wq D ai;obtain⟨ql,qf,s0,s1,s2,s3⟩:=(d.o.p.kept ai.o).cells4;rw[HK.o]at s0))
  obtain⟨Q,hQ⟩:=Ue w9.heap.size;have au:=UD (M<Q) z3q;rw[<-hQ]at D|-;clear hQ;have l:=UD (Chg B wq []) (l.o.trans ai.o);have d:=hZ (d.o.kept ai.o)
 rotate_left
 .have HK:=hZ H;rw[H]at r0;have bb:=UD (DR ts) (PK aP.o z3l);obtain⟨ag,aH⟩:=Ue o.path;have bu:=hZ aH;rw[<-aH]at r1 d|-;clear aH;go_upto_region 11 with(fail);by_cases aK:ts=[]
  .have f:=UD (ar= .no 176) (aB.o.trans (by unfold Da;rw[H,aK];rfl));have he:ag.toList.isEmpty=true:=by rw[bu.o,(D7 aP.o).1 aK];decide+kernel
   clear aK H;go_upto_region 12 with(fail)
   exact z3b
  .have bZ:=hZ aK
   have he:ag.toList.isEmpty=false:=by
    cases e:ag.toList.isEmpty with
    |false=>rfl
    |true=>exact absurd ((D7 aP.o).2 (by rw[<-bu.o];exact DK (by rw[<-Lib.toList_data];exact List.isEmpty_iff.1 e))) aK
   clear aK H;go_upto_region 13 with(fail);clear he
   go_upto_region 15 with(fail);obtain⟨LT,aq⟩:=Ue (Ah t ts)
   rw[<-aq]at bv|-;have ah:=hZ aq;clear aq;cases LT with
   |none=>
    simp only[Option.isSome_none];have f:=UD (ar= .no 4) (aB.o.trans (by unfold Da;rw[HK.o,<-ah.o];simp[bZ.o]));exact z3v
   |some u=>
    simp only[Option.isSome_some];obtain⟨us,aF⟩:=Ue ([(⟨1,A6 ts,Dz,Ai u⟩:CW)]);obtain⟨S,aE⟩:=Ue (A8 t ts);have bN:=UD (ar= .yes S us) (aB.o.trans (by rw[aF,aE];unfold Da;rw[HK.o,<-ah.o];simp[bZ.o]));have bO:=UD (us.map CW.toI=[(⟨1,ag,⟨#[]⟩,MW u⟩:Bq)]) (by rw[aF,bu.o,<-JZ aP.o];rfl);have bh:AL B F u [l0,l1,l2,l3,l4,l5]:=bv.o.2;have aJ:=UD (Bt u) (aA.o.lead ah.o.symm)
    have aN:=UD (∀j,Chg B j []->Cl prog 47 #[nA #[c0,c1,c2,c3,c4,c5],nS p1 ts.length Y,nI nX 2,nA #[x0,x1,x2,x3,x4,x5]] j (qq F S j)) fun j aM=>by
     have:=qe ts 2 t t F [c0,c1,c2,c3,c4,c5] [x0,x1,x2,x3,x4,x5] (nS p1 ts.length Y) j ⟨ZM,⟨bZ.o,u,ah.o.symm⟩,AL.kept (aM.keepsF (ab.o▸aa.o)) (fun _ h=>h) _ _ bz.o,fun h=>absurd rfl h,rfl,bJ.o,
      fun b c=>Q6 (aa.o b c) (ab.o▸aM.size),aA.o,bb.o,am.o.2,bq.o.kept aM⟩
     rw[q9 _ _ _ bZ.o,<-aE]at this;exact this
    clear aF aE;go_upto_region 17 with(fail);go_upto_region 19 with(fail)
    go_upto_region 32 with(first
     |(refine uN d.o.a ?_)
     |(refine kM w9 ak.o ?_;intro wq D ai;obtain⟨ql,qf,s0,s1,s2,s3⟩:=(d.o.p.kept ai.o).cells4;rw[HK.o]at s0))
    obtain⟨Q,hQ⟩:=Ue w9.heap.size;have au:=UD (M<Q) z3q;rw[<-hQ]at D|-;clear hQ;have l:=UD (Chg B wq []) (l.o.trans ai.o);have d:=hZ (d.o.kept ai.o);have bn:=UD (∀b,F b->b<wq.heap.size/\b≠R) fun b c=>⟨Q6 (aa.o b c) (ab.o▸l.o.size),fun e=>by have:=HF.o b c;have:=C.o;omega⟩
    have bM:=UD (∀j,Chg wq j [R]->Cl prog 27 #[nA #[l0,l1,l2,l3,l4,l5]] j (mg u j)) fun j r=>
     lZ u F _ j (Ar aJ.o.fits).1 (fun s hs=>(Uy u aJ.o.good aJ.o.fits s hs).keys) (AL.kept (r.keepsF (fun b c=>(bn.o b c).1) (fun b hm c=>(bn.o b c).2 (List.mem_singleton.1 hm))) (fun _ h=>h) _ _ (AL.kept (l.o.keepsF (ab.o▸aa.o)) (fun _ h=>h) _ _ bh)) (fun b c=>Q6 (bn.o b c).1 r.size)
    clear bh;obtain⟨n,hn⟩:=Ue ts.length;rw[<-hn]at aN|-;clear hn;have f:=hZ (tF.stays wq F R P ag u S p1 n Y c0 c1 c2 c3 c4 c5 x0 x1 x2 x3 x4 x5 l0 l1 l2 l3 l4 l5 bn.o);refine uW (qF wq (sm R) tU (tF F R P ag u S p1 n Y c0 c1 c2 c3 c4 c5 x0 x1 x2 x3 x4 x5 l0 l1 l2 l3 l4 l5)) ?_ ?_ ?_
    .intro ii op a m dd ho hF z bU cL hI K hK;obtain⟨O,i⟩:=hI;have hp:=fun k=>bU ⟨k,.data⟩;match ii,ho with
     |0,rfl=>
      have h2:rS a 2=(nP (nM ⟨A,0,nN⟩)):=hF.at 2 Yb
      have a0:Chg wq m [R]:=i.chg [R] (fun b k g _=>by
       by_cases e:b=R
       .exact z3i
       .rw[show sm R b=nN from Qs e]at g;cases g)
      obtain⟨ga,gb,g0,g1,g2,g3,g4,g5⟩:=(d.o.a.kept a0 z3s).cells6;exact z3d
     |1,rfl=>
      have h8:rS a 8=(nS p1 n Y):=hF.at 8 Yb;exact z3d
     |2,rfl=>
      have ex:rS a 14=(nP (nM ⟨X,0,nN⟩)):=hF.at 14 Yb
      have a0:Chg wq m [R]:=i.chg [R] (fun b k g _=>by
       by_cases e:b=R
       .exact z3i
       .rw[show sm R b=nN from Qs e]at g;cases g)
      obtain⟨ga,gb,g0,g1,g2,g3,g4,g5⟩:=(d.o.x.kept a0 z3s).cells6;exact z3d
     |3,rfl=>
      have ey:rS a 155=(nA #[c0,c1,c2,c3,c4,c5]):=i.say 0 (hp 0 Zh rfl) (lq rfl);have ez:rS a 156=(nS p1 n Y):=i.say 1 (hp 1 Zh rfl) (lq rfl);have eA:rS a 157=(nA #[x0,x1,x2,x3,x4,x5]):=i.say 2 (hp 2 Zh rfl) (lq rfl)
      have es:dd 10=false:=by
       cases e:dd 10 with
       |false=>rfl
       |true=>exact absurd (cL 10 _ rfl e ⟨3,.data⟩ Zh rfl) (by rw[z];simp)
      have av:Chg wq m []:=i.chg [] (fun b k g h2=>by
       by_cases e:b=R
       .rw[show sm R b=nM 10 from Qr e]at g;injection g with g;subst g;rw[es]at h2;cases h2
       .rw[show sm R b=nN from Qs e]at g;cases g)
      go_simp;go_at_call 47;refine(aN.o m (l.o.trans av)).mono ?_;rintro e w6 ⟨FY,aV,rfl,W,p,h6⟩;exact hK _ _ Zh (i.new f.o z h6 (O':=fun b=>m.heap.size<=b/\b<w6.heap.size) ⟨FY,aV,rfl,W,fun b c=>(p b c).1.elim .inl (fun h=> .inr ⟨h,(p b c).2⟩)⟩ (fun b c=>c))
     |4,rfl=>
      exact z3n
     |5,rfl=>
      have eB:rS a 159=(nP (nM ⟨P,1,nN⟩)):=i.say 4 (hp 4 Zh rfl) (lq rfl)
      have a0:Chg wq m [R]:=i.chg [R] (fun b k g _=>by
       by_cases e:b=R
       .exact z3i
       .rw[show sm R b=nN from Qs e]at g;cases g)
      obtain⟨ga,gb,g0,g1,g2,g3⟩:=(d.o.p.kept a0 z3s).cells4;exact z3d
     |6,rfl=>
      have d9:rS a 16=(nP (nM ⟨L,0,nN⟩)):=hF.at 16 Yb
      have a0:Chg wq m [R]:=i.chg [R] (fun b k g _=>by
       by_cases e:b=R
       .exact z3i
       .rw[show sm R b=nN from Qs e]at g;cases g)
      obtain⟨ga,gb,g0,g1,g2,g3,g4,g5⟩:=(d.o.l.kept a0 z3s).cells6;exact z3d
     |7,rfl=>
      have eC:rS a 161=(nA #[l0,l1,l2,l3,l4,l5]):=i.say 6 (hp 6 Zh rfl) (lq rfl)
      have a0:Chg wq m [R]:=i.chg [R] (fun b k g _=>by
       by_cases e:b=R
       .exact z3i
       .rw[show sm R b=nN from Qs e]at g;cases g)
      go_simp;go_at_call 27;refine(bM.o m a0).mono ?_;rintro e w6 ⟨sv,ys,G,rfl,q,v,k3,k4,h6⟩;exact hK _ _ Zh (i.new f.o z h6 (O':=G) ⟨ys,q,v,k3⟩ k4)
     |8,rfl=>
      have ea:a.tmps.getD 160 undef=(nG ag):=i.say 5 (hp 5 Zh rfl) (lq rfl);have af:=hp 7 Zh rfl;have aT:=i.say 7 af (lr (u:=tU) rfl z);obtain⟨ys,q,v,k3⟩:=aT;have q:As m (a.tmps.getD 162 undef) 6 (MW u).length ys:=q;have v:SE (O 7) (a.tmps.getD 162 undef):=v;obtain⟨sv,aD⟩:∃sv,a.tmps.getD 162 undef=sv:=⟨_,rfl⟩;rw[aD]at q v;have aj:∀b,O 7 b->b<m.heap.size:=fun b c=>(i.own 7 af (lr (u:=tU) rfl z) b c).1;obtain⟨va,vc,rfl,_⟩:=q.form;have gp:a.tmps[160]?.getD undef= nG ag:=by rw[<-Qp];exact ea
      have gs:a.tmps[162]?.getD undef= nS va (MW u).length vc:=by rw[<-Qp];exact aD
      go_simp;exact hK _ _ Zh ⟨_,i.next f.o z (O':=O 7) (show Chg m m []from Chg.refl m []) ⟨_,ys,rfl,q,v,k3⟩ aj (fun b c=> .inr (.inr ⟨7,rfl,af,c⟩)) (fun b c=>by cases c)⟩
     |9,rfl=>
      have hu:=hp 8 Zh rfl;obtain⟨sv,ys,p,q,v,k3⟩:=i.say 8 hu (lr (u:=tU) rfl z);have aj:∀b,O 8 b->b<m.heap.size:=fun b c=>(i.own 8 hu (lr (u:=tU) rfl z) b c).1;obtain⟨va,vc,rfl,_⟩:=q.form;have hq:a.tmps.getD 163 undef= nA #[nI nX 1,nG ag,nG ⟨#[]⟩,nS va (MW u).length vc]:=p;have gq:a.tmps[163]?.getD undef= nA #[nI nX 1,nG ag,nG ⟨#[]⟩,nS va (MW u).length vc]:=by rw[<-Qp];exact hq
      go_simp
      exact hK _ _ Zh ⟨_,i.next f.o z (O':=fun b=>b=m.heap.size\/O 8 b) ((Chg.refl m []).alloc _) (qg.one q v k3 aj ((Chg.refl m []).alloc _) (BD _ _ [nI nX 1,nG ag,nG ⟨#[]⟩,nS va (MW u).length vc] _ _ rfl Zh)) (fun b c=>by
       rcases c with rfl|c
       .simp
       .have:=aj b c;simp;omega) (fun b c=>by
       rcases c with rfl|c
       .exact .inl (Q8 _)
       .exact .inr (.inr ⟨8,rfl,hu,c⟩)) (fun b c=>by cases c)⟩
     |10,rfl=>
      have h4:a.tmps.getD 4 undef=(nP (nM ⟨R,0,nN⟩)):=hF.at 4 Yb;have af:=hp 3 Zh rfl;obtain⟨G,aV,p,W,hG⟩:=i.say 3 af (lr (u:=tU) rfl z);have d8:a.tmps.getD 158 undef= nA aV.toArray:=p;have cQ:=i.own 3 af (lr (u:=tU) rfl z);have ed:=i.blk d.o.r (lr (u:=sm R) (Qr rfl) z)
      have dJ:∀b,O 3 b->b≠R:=fun b c e=>by
       obtain⟨k,Y,q2⟩:=(cQ b c).2 (by rw[e];exact d.o.r.lt);rw[show sm R b=nM 10 from Qr e]at Y;injection Y with Y;subst Y;rw[z]at q2;cases q2
      have cJ:=E7 W;have eh:∀b,G b->b<m.heap.size:=fun b c=>(hG b c).elim (fun h=>Q6 (bn.o b h).1 i.sz) (fun h=>(cQ b h).1);have ee:∀b,G b->b≠R:=fun b c=>(hG b c).elim (fun h=>(bn.o b h).2) (dJ b);rw[Qr ZN];refine Gj _ _ _ rfl R aV (by simpa[Act.eval]using h4) (by simpa[Act.eval]using d8) 29 zV ed (by rw[cJ.2];exact A9) (by rw[cJ.2];rfl) cJ.1 ?_;intro w7 eL dG cK;have eg:BZ G m w7:=cK.keepsF eh (fun b hm c=>ee b c (List.mem_singleton.1 hm))
      exact hK undef _ (fun _=>rfl) ⟨_,i.next f.o z (O':=fun b=>b=R\/O 3 b) cK ⟨G,aV,dG,AL.kept eg (fun _ h=>h) _ _ W,fun b c=>(hG b c).elim .inl (fun h=> .inr ⟨.inr h,dJ b h⟩),.inl rfl⟩ (fun b c=>by
       rcases c with rfl|c
       .exact dG.lt
       .exact Q6 (cQ b c).1 cK.size) (fun b c=>by
       rcases c with rfl|c
       .exact .inr (.inl ⟨d.o.r.lt,Qr rfl⟩)
       .exact .inr (.inr ⟨3,rfl,af,c⟩)) (fun b c _=> .inl (by obtain rfl:=List.mem_singleton.1 c;exact⟨d.o.r.lt,Qr rfl⟩))⟩
     |11,rfl=>
      have af:=hp 9 Zh rfl;have aT:=i.say 9 af (lr (u:=tU) rfl z);obtain⟨xs,q,v,k3⟩:=aT;have q:As m (a.tmps.getD 164 undef) 4 1 xs:=q;have v:SE (O 9) (a.tmps.getD 164 undef):=v;obtain⟨sv,aD⟩:∃sv,a.tmps.getD 164 undef=sv:=⟨_,rfl⟩;rw[aD]at q v;have aj:∀b,O 9 b->b<m.heap.size:=fun b c=>(i.own 9 af (lr (u:=tU) rfl z) b c).1;go_simp;exact hK _ _ Zh ⟨_,i.next f.o z (O':=O 9) (show Chg m m []from Chg.refl m []) ⟨xs,q,v,k3⟩ aj (fun b c=> .inr (.inr ⟨9,rfl,af,c⟩)) (fun b c=>by cases c)⟩
     |12,rfl=>
      exact z3d
     |_+13,ho=>exact absurd ho Zh
    .intro a V dd hF hd hI;obtain⟨O,i⟩:=hI;obtain⟨xs,q,v,k3⟩:=i.say 11 (hd 11 ZM) (lq rfl);have cT:=i.own 11 (hd 11 ZM) (lq rfl);obtain⟨G,aV,dH,W,hG,_⟩:=i.say 10 (hd 10 ZM) (lq rfl);have cS:=i.own 10 (hd 10 ZM) (lq rfl);have dL:=hd 10 ZM;have dM:=hd 11 ZM;have dN:=i.dis 11 10 ZM dM dL (lq rfl) (lq rfl);have h6:a.tmps.getD 6 undef= nI nX 0:=i.say 12 (hd 12 ZM) (lq rfl);obtain⟨y0,y1,y2,y3,y4,y5,rfl⟩:=kt (E7 W).2;have q:As V (a.tmps.getD 5 undef) 4 1 xs:=q;have v:SE (O 11) (a.tmps.getD 5 undef):=v;obtain⟨sv,h5⟩:∃sv,a.tmps.getD 5 undef=sv:=⟨_,rfl⟩;rw[h5]at q v;obtain⟨va,vc,rfl,_⟩:=q.form
     have an:=UD (Chg wq V [R]) (i.chg [R] (fun b k g _=>by
      by_cases e:b=R
      .exact z3i
      .rw[show sm R b=nN from Qs e]at g;cases g))
     have J:=hZ dH
     have cO:∀b,b≠R->(b<wq.heap.size->∃k,sm R b=nM k/\dd k=true)->wq.heap.size<=b:=fun b c h=>by
      by_cases aj:b<wq.heap.size
      .obtain⟨k,Y,_⟩:=h aj;rw[show sm R b=nN from Qs c]at Y;cases Y
      .omega
     have c7:=(ad.o.trans l.o).size;have dI:∀b,O 11 b->b≠R:=fun b c e=>dN b c (by rw[e];assumption);have bc:=UD (EW w V (us.map CW.toI) (nS va 1 vc) xs (O 11)) (by rw[bO.o];exact⟨q,v,k3,fun b c=>⟨Q7 c7 (cO b (dI b c) (cT b c).2),(cT b c).1⟩⟩);have aw:=hZ W;have ae:=UD (∀b,G b->(F b\/w.heap.size<=b)/\b<V.heap.size) fun b c=>(hG b c).elim (fun h=>⟨.inl h,Q6 (bn.o b h).1 an.o.size⟩) (fun h=>⟨.inr (Q7 c7 (cO b h.2 (cS b h.1).2)),(cS b h.1).1⟩);clear i hd cT cS dN q v k3 dH W hG cO c7 dI dL dM;obtain⟨fu,hu,rfl⟩:=hF.fin2 [155,156,157,158,159,160,161,162,163,164,5,6] Yb;have k5:=(hu 5).symm.trans h5;have k6:=(hu 6).symm.trans h6;clear hF hu h5 h6;rw[k5,k6];clear k5 k6;go_wp2_with fail;refine bodyPost_ret (uR J.o) rfl ?_;have E:Chg w V []:=Chg.fresh (ad.o.trans l.o) an.o (fun y p=>by have:=C.o;simp at p;omega);clear f;rw[bN.o];exact⟨G,_,_,_,_,rfl,aw.o,ae.o,bc.o,E⟩
    .exact z3p
 .have HK:=hZ H;rw[H]at r0;go_upto_region 11 with(fail);go_upto_region 13 with(fail)
  go_upto_region 15 with(fail);obtain⟨LT,aq⟩:=Ue (Ah t ts)
  rw[<-aq]at bv|-;have ah:=hZ aq;clear aq;cases LT with
  |none=>
   simp only[Option.isSome_none];have f:=UD (ar= .no 4) (aB.o.trans z3o);clear H;exact z3v
  |some u=>
   simp only[Option.isSome_some];have bb:=UD (DR ts) (PK aP.o z3l);obtain⟨x,r⟩:=cj.o (by rw[H];rfl);obtain⟨aL,bf⟩:=cI.o x r;obtain⟨us,aF⟩:=Ue ([(⟨3,A6 ts,Dz,Ai u⟩:CW)]);obtain⟨S,aE⟩:=Ue (AE t ts x);have f:=UD (ar=Kj S us) (aB.o.trans (by rw[aF,aE,r];unfold Da;rw[H,<-ah.o];rfl));obtain⟨ag,aH⟩:=Ue o.path;have bO:=UD (us.map CW.toI=[(⟨3,ag,⟨#[]⟩,MW u⟩:Bq)]) (by rw[aF,aH,<-JZ aP.o];rfl);have bh:AL B F u [l0,l1,l2,l3,l4,l5]:=bv.o.2;have aJ:=UD (Bt u) (aA.o.lead ah.o.symm)
   have bM:=UD (∀j,Chg B j []->Cl prog 27 #[nA #[l0,l1,l2,l3,l4,l5]] j (mg u j)) fun j r=>
    lZ u F _ j (Ar aJ.o.fits).1 (fun s hs=>(Uy u aJ.o.good aJ.o.fits s hs).keys) (AL.kept (r.keepsF (ab.o▸aa.o)) (fun _ h=>h) _ _ bh) (fun b c=>Q6 (aa.o b c) (ab.o▸r.size))
   obtain⟨FD,ap⟩:=Ue Fx;have aO:=UD (∀b,FD b->(F b\/w.heap.size<=b)/\b<X) z3u;have bm:=UD (∀b,FD b->b≠R) (by rw[ap];exact dk.o)
   have aN:=UD (∀j,Chg B j []->Cl prog 47 #[nA #[c0,c1,c2,c3,c4,c5],nS p1 ts.length Y,nI nX 0,nA #[x0,x1,x2,x3,x4,x5]] j (qq (fun b=>F b\/FD b) S j)) fun j aM=>by
    have:=qe ts 0 t x (fun b=>F b\/FD b) [c0,c1,c2,c3,c4,c5] [x0,x1,x2,x3,x4,x5] (nS p1 ts.length Y) j ⟨ZM,⟨u,ah.o.symm⟩,AL.kept (aM.keepsF (ab.o▸aa.o)) (fun _ h=> .inl h) _ _ bz.o,fun _=>AL.kept (aM.keepsF (ab.o▸fun b c=>(a7.o b c).2)) (fun _ h=> .inr (by rw[ap];exact h)) _ _ aL,rfl,bJ.o,
     fun b c=>Q6 (c.elim (aa.o b) (fun h=>(aO.o b h).2)) (ab.o▸aM.size),aA.o,bb.o,am.o.2,bq.o.kept aM⟩
    rw[rO,<-aE]at this;exact this
   have aG:=UD (sA (Ag S)) (by rw[aE];exact t8 aA.o bf am.o.1 ah.o.symm);rw[<-aH]at r1 d|-;clear r aL bf aF aE bh ap H;go_upto_region 17 with(fail);go_upto_region 19 with(fail)
   go_upto_region 34 with(first
    |(refine uN d.o.a ?_)
    |(refine kM w9 ak.o ?_;intro wq D ai;obtain⟨ql,qf,s0,s1,s2,s3⟩:=(d.o.p.kept ai.o).cells4;rw[HK.o]at s0))
   have eu:=hZ aH;clear aH;obtain⟨Q,hQ⟩:=Ue w9.heap.size;have au:=UD (M<Q) z3q;rw[<-hQ]at D|-;clear hQ;have l:=UD (Chg B wq []) (l.o.trans ai.o);have d:=hZ (d.o.kept ai.o);obtain⟨wm,dU⟩:=Ue wq;rw[<-dU]at l D d|-;clear dU;have bl:=UD (∀b,FD b->b≠Q) fun b c=>z3w
   go_upto_region 35 with(first
    |(refine uN d.o.a ?_)
    |(refine uN d.o.x ?_)
    |(go_at_call 47;refine(aN.o _ l.o).mono ?_;rintro e wy ⟨FY,aV,he,W,p,g⟩;obtain⟨y0,y1,y2,y3,y4,y5,rfl⟩:=kt (E7 W).2;have he:e= nR (nA #[y0,y1,y2,y3,y4,y5]):=he;subst he;have bd:=hZ W;have al:=hZ p;have a9:=hZ (E7 W).1;have aQ:=hZ g;clear W p g)
    |(refine uO (D.o.kept aQ.o) a9.o ?_;intro T bD aZ))
   have aU:=UD (Chg wm T [Q]) ((aQ.o.none _).trans aZ.o)
   have aw:=UD (AL T FY S [y0,y1,y2,y3,y4,y5]) (AL.kept (aZ.o.keepsF (fun b c=>(al.o b c).2) (fun b hm c=>by
    obtain rfl:=List.mem_singleton.1 hm;have g:=au.o;have h2:=C.o;have h9:=D.o.lt;rcases(al.o b c).1 with(h|h)|h
    .have:=aa.o b h;omega
    .exact bl.o b h rfl
    .omega)) (fun _ h=>h) _ _ bd.o)
   have ae:=UD (∀b,FY b->(F b\/w.heap.size<=b)/\b<T.heap.size) fun b c=>⟨by
    rcases(al.o b c).1 with(h|h)|h
    .exact .inl h
    .exact(aO.o b h).1
    .have:=(ad.o.trans l.o).size;exact .inr Zj,Q6 (al.o b c).2 aZ.o.size⟩
   have bF:=UD (∀b,FY b->b≠R) fun b c e=>by
    exact z3g
   have l:=UD (Chg B T []) (Chg.fresh l.o aU.o (fun y p=>by have:=C.o;have:=ab.o;have:=au.o;simp at p;omega));have d:=hZ (d.o.kept aU.o z3j);clear D bd al aQ aZ;have D:=bD;have bN:=f;clear f;have f:=hZ (t9.stays T P ag u l0 l1 l2 l3 l4 l5);refine uW (qF T (ur) ud (t9 P ag u l0 l1 l2 l3 l4 l5)) ?_ ?_ ?_
   .intro ii op a m dd ho hF z bU cL hI K hK;obtain⟨O,i⟩:=hI;have hp:=fun k=>bU ⟨k,.data⟩;match ii,ho with
    |0,rfl=>
     exact z3n
    |1,rfl=>
     have eD:rS a 171=(nP (nM ⟨P,1,nN⟩)):=i.say 0 (hp 0 Zh rfl) (lq rfl);exact z3k
    |2,rfl=>
     have d9:rS a 16=(nP (nM ⟨L,0,nN⟩)):=hF.at 16 Yb;have av:Chg T m []:=i.chg [] (fun b k g _=>by cases g);obtain⟨ga,gb,g0,g1,g2,g3,g4,g5⟩:=(d.o.l.kept av).cells6;exact z3d
    |3,rfl=>
     have eE:rS a 173=(nA #[l0,l1,l2,l3,l4,l5]):=i.say 2 (hp 2 Zh rfl) (lq rfl);exact z3h
    |4,rfl=>
     have eb:a.tmps.getD 172 undef=(nG ag):=i.say 1 (hp 1 Zh rfl) (lq rfl);have af:=hp 3 Zh rfl;have aT:=i.say 3 af (lr (u:=ud) rfl z);obtain⟨ys,q,v,k3⟩:=aT;have q:As m (a.tmps.getD 174 undef) 6 (MW u).length ys:=q;have v:SE (O 3) (a.tmps.getD 174 undef):=v;obtain⟨sv,aD⟩:∃sv,a.tmps.getD 174 undef=sv:=⟨_,rfl⟩;rw[aD]at q v;have aj:∀b,O 3 b->b<m.heap.size:=fun b c=>(i.own 3 af (lr (u:=ud) rfl z) b c).1;obtain⟨va,vc,rfl,_⟩:=q.form;have gp:a.tmps[172]?.getD undef= nG ag:=by rw[<-Qp];exact eb
     have gs:a.tmps[174]?.getD undef= nS va (MW u).length vc:=by rw[<-Qp];exact aD
     go_simp;exact hK _ _ Zh ⟨_,i.next f.o z (O':=O 3) (show Chg m m []from Chg.refl m []) ⟨_,ys,rfl,q,v,k3⟩ aj (fun b c=> .inr (.inr ⟨3,rfl,af,c⟩)) (fun b c=>by cases c)⟩
    |5,rfl=>
     have hu:=hp 4 Zh rfl;obtain⟨sv,ys,p,q,v,k3⟩:=i.say 4 hu (lr (u:=ud) rfl z);have aj:∀b,O 4 b->b<m.heap.size:=fun b c=>(i.own 4 hu (lr (u:=ud) rfl z) b c).1;obtain⟨va,vc,rfl,_⟩:=q.form;have hq:a.tmps.getD 175 undef= nA #[nI nX 3,nG ag,nG ⟨#[]⟩,nS va (MW u).length vc]:=p;have gq:a.tmps[175]?.getD undef= nA #[nI nX 3,nG ag,nG ⟨#[]⟩,nS va (MW u).length vc]:=by rw[<-Qp];exact hq
     go_simp
     exact hK _ _ Zh ⟨_,i.next f.o z (O':=fun b=>b=m.heap.size\/O 4 b) ((Chg.refl m []).alloc _) (qg.one q v k3 aj ((Chg.refl m []).alloc _) (BD _ _ [nI nX 3,nG ag,nG ⟨#[]⟩,nS va (MW u).length vc] _ _ rfl Zh)) (fun b c=>by
      rcases c with rfl|c
      .simp
      .have:=aj b c;simp;omega) (fun b c=>by
      rcases c with rfl|c
      .exact .inl (Q8 _)
      .exact .inr (.inr ⟨4,rfl,hu,c⟩)) (fun b c=>by cases c)⟩
    |6,rfl=>
     have af:=hp 5 Zh rfl;have aT:=i.say 5 af (lr (u:=ud) rfl z);obtain⟨xs,q,v,k3⟩:=aT;have q:As m (a.tmps.getD 176 undef) 4 1 xs:=q;have v:SE (O 5) (a.tmps.getD 176 undef):=v;obtain⟨sv,aD⟩:∃sv,a.tmps.getD 176 undef=sv:=⟨_,rfl⟩;rw[aD]at q v;have aj:∀b,O 5 b->b<m.heap.size:=fun b c=>(i.own 5 af (lr (u:=ud) rfl z) b c).1;go_simp;exact hK _ _ Zh ⟨_,i.next f.o z (O':=O 5) (show Chg m m []from Chg.refl m []) ⟨xs,q,v,k3⟩ aj (fun b c=> .inr (.inr ⟨5,rfl,af,c⟩)) (fun b c=>by cases c)⟩
    |_+7,ho=>exact absurd ho Zh
   .intro a V dd hF hd hI;obtain⟨O,i⟩:=hI;clear f;have f:=bN;obtain⟨xs,q,v,k3⟩:=i.say 6 (hd 6 ZM) (lq rfl);have cU:=i.own 6 (hd 6 ZM) (lq rfl);have q:As V (a.tmps.getD 20 undef) 4 1 xs:=q;have v:SE (O 6) (a.tmps.getD 20 undef):=v;obtain⟨sv,br⟩:∃sv,a.tmps.getD 20 undef=sv:=⟨_,rfl⟩;rw[br]at q v;obtain⟨va,vc,rfl,_⟩:=q.form;have an:=UD (Chg T V []) (i.chg [] (fun b k g _=>by cases g))
    have bo:=UD (∀b,O 6 b->T.heap.size<=b/\b<V.heap.size) fun b c=>⟨by
     by_cases aj:b<T.heap.size
     .obtain⟨k,Y,_⟩:=(cU b c).2 aj;cases Y
     .omega,(cU b c).1⟩
    have bc:=UD (EW w V (us.map CW.toI) (nS va 1 vc) xs (O 6)) z3m;have bH:=UD (∀b,O 6 b->b≠R) fun b c e=>z3x
    have aw:=UD (AL V FY S [y0,y1,y2,y3,y4,y5]) (AL.kept (an.o.keepsF (fun b c=>(ae.o b c).2)) (fun _ h=>h) _ _ aw.o);have ae:=UD (∀b,FY b->(F b\/w.heap.size<=b)/\b<V.heap.size) fun b c=>⟨(ae.o b c).1,Q6 (ae.o b c).2 an.o.size⟩;clear i hd cU q v k3;have l:=UD (Chg B V []) (l.o.trans an.o);have d:=hZ (d.o.kept an.o);have D:=hZ (D.o.kept an.o);obtain⟨fu,hu,bQ⟩:=hF.fin [171,172,173,174,175,176,20] Yb;exact z3c
   .exact z3p
 .have HK:=hZ H;rw[H]at r0;have bb:=UD (DR ts) (PK aP.o z3l);obtain⟨ag,aH⟩:=Ue o.path;obtain⟨frm,bR⟩:=Ue o.frm;have bu:=hZ aH;have cq:=hZ bR;have ef:frm.size<=16777216:=by rw[bR];exact bp.o.frm
  rw[<-aH]at r1 d|-;rw[<-bR]at r2 d|-;obtain⟨dV,cM⟩:=Ue (EV o.path o.frm)
  have dg:=UD (∀j,Cl prog 45 #[nG ag,nG (frm++⟨#[47]⟩)] j fun e w'=>e= nR (.bool dV)/\Chg j w' []) fun j=>by
   rw[cM,<-GR,<-aH,<-bR];exact rZ ag (frm++⟨#[47]⟩) j
  have bI:=hZ cM.symm;clear aH bR cM;cases dV with
  |true=>
   have f:=UD (ar= .no 175) (aB.o.trans (by unfold Da;rw[H];simp[bI.o]));clear H;go_upto_region 10 with((go_at_call 45;refine(dg.o _).mono ?_;rintro e wb ⟨rfl,g⟩;have ba:=hZ g;clear g));have l:=UD (Chg B wb []) (l.o.trans ba.o);have d:=hZ (d.o.kept ba.o)
   exact z3b
  |false=>
   clear H;go_upto_region 11 with((go_at_call 45;refine(dg.o _).mono ?_;rintro e wb ⟨rfl,g⟩;have ba:=hZ g;clear g));have l:=UD (Chg B wb []) (l.o.trans ba.o);have d:=hZ (d.o.kept ba.o);clear pl pf r0 r1 r2 r3;obtain⟨pl,pf,r0,r1,r2,r3⟩:=d.o.p.cells4;rw[HK.o]at r0;clear ef
   go_upto_region 13 with(fail);obtain⟨LT,aq⟩:=Ue (Ah t ax)
   rw[<-aq]at bK|-;have ah:=hZ aq;clear aq;cases LT with
   |none=>
    simp only[Option.isSome_none];have f:=UD (ar= .no 4) (aB.o.trans (by unfold Da;rw[HK.o,<-ah.o];simp[bI.o]));go_upto_region 14 with(fail)
    exact z3b
   |some u=>
    simp only[Option.isSome_some];go_upto_region 15 with(fail);go_upto_region 17 with(fail)
    go_upto_region 19 with(fail)
    go_upto_region 37 with(first
     |(refine uN d.o.a ?_)
     |(refine kM wb ak.o ?_;intro wq D ai;obtain⟨ql,qf,s0,s1,s2,s3⟩:=(d.o.p.kept ai.o).cells4;rw[HK.o]at s0))
    obtain⟨Q,hQ⟩:=Ue wb.heap.size;have au:=UD (M<Q) (by rw[hQ];have:=C.o;have:=ba.o.size;omega);rw[<-hQ]at D|-;clear hQ;have l:=UD (Chg B wq []) (l.o.trans ai.o);have d:=hZ (d.o.kept ai.o);by_cases bB:o.path=o.frm
    .have f:=UD (ar= .yes t []) (aB.o.trans (by have h:=bI.o;unfold Da;rw[HK.o,<-ah.o];rw[bB]at h|-;simp[h]));have e1:(ag.toList==frm.toList)=true:=by rw[bu.o,cq.o,bB];exact beq_self_eq_true _
     have e2:ag.toList=frm.toList:=by simpa using e1
     clear bB;go_upto_region 38 with(fail)
     exact z3e
    .have dr:=hZ bB;have e2:¬ag.toList=frm.toList:=fun e=>bB (by rw[<-bu.o,<-cq.o];exact DK (by rw[<-Lib.toList_data,<-Lib.toList_data];exact e));have e1:(ag.toList==frm.toList)=false:=Qq.2 e2;clear bB;go_upto_region 39 with(fail);clear e1 e2
     have b6:ax≠[]:=fun e=>dr.o (by
      have h2:o.frm=⟨#[]⟩:=(D7 (cw.o (by rw[HK.o];rfl))).1 e;have h3:=Jb aP.o (by rw[<-h2];exact bI.o)
      rw[h2,(D7 aP.o).1 h3])
     obtain⟨rest,b7⟩:=Ue (A8 t ax);have bG:=UD (Bt rest) (by rw[b7];exact aA.o.cut b6 ah.o.symm);have aJ:=UD (Bt u) (aA.o.lead ah.o.symm);have c6:AL B F u [m0,m1,m2,m3,m4,m5]:=bK.o.2;have b1:=hZ (E7 c6).1;have cG:=hZ c6;obtain⟨bW,cN⟩:=Ue ([(⟨1,A6 ax,Dz,Ai u⟩:CW)]);have f:=UD (ar=Ga rest ts u bW) (aB.o.trans (by rw[cN,b7];unfold Da;rw[HK.o,<-ah.o];simp[bI.o,dr.o]));have d3:=UD (bW.map CW.toI=[(⟨1,frm,⟨#[]⟩,MW u⟩:Bq)]) (by rw[cN,cq.o,<-JZ (cw.o (by rw[HK.o];rfl))];rfl)
     have dj:=UD (∀j,Chg B j []->Cl prog 47 #[nA #[c0,c1,c2,c3,c4,c5],nS p2 ax.length q2,nI nX 2,nA #[x0,x1,x2,x3,x4,x5]] j (qq F rest j)) fun j aM=>by
      have:=qe ax 2 t t F [c0,c1,c2,c3,c4,c5] [x0,x1,x2,x3,x4,x5] (nS p2 ax.length q2) j ⟨ZM,⟨b6,u,ah.o.symm⟩,AL.kept (aM.keepsF (ab.o▸aa.o)) (fun _ h=>h) _ _ bz.o,fun h=>absurd rfl h,rfl,bJ.o,
       fun b c=>Q6 (aa.o b c) (ab.o▸aM.size),aA.o,PK (cw.o (by rw[HK.o];rfl)) (by have:=bp.o.frm;omega),dp.o.2,d7.o.kept aM⟩
      rw[q9 _ _ _ b6,<-b7]at this;exact this
     clear b6 b7 cN c6
     go_upto_region 40 with(first
      |(refine uN d.o.a ?_)
      |(refine uN d.o.x ?_)
      |(go_at_call 47;refine(dj.o _ l.o).mono ?_;rintro e b9 ⟨FZ,aV,he,W,p,g⟩;obtain⟨z0,z1,z2,z3,z4,z5,rfl⟩:=kt (E7 W).2;have he:e= nR (nA #[z0,z1,z2,z3,z4,z5]):=he;subst he;have dE:=hZ W;have bt:=hZ p;have d4:=hZ (E7 W).1;have cA:=hZ g;clear W p g)
      |(refine kM b9 d4.o ?_;intro aI aW b2))
     have cB:=UD (Chg wq aI []) (cA.o.trans b2.o);have b4:=UD (AL aI FZ rest [z0,z1,z2,z3,z4,z5]) (AL.kept (b2.o.keepsF (fun b c=>(bt.o b c).2)) (fun _ h=>h) _ _ dE.o);have aX:=UD (∀b,FZ b->(F b\/w.heap.size<=b)/\b<aI.heap.size) fun b c=>⟨(bt.o b c).1.imp id (fun h=>by have:=(ad.o.trans l.o).size;omega),Q6 (bt.o b c).2 b2.o.size⟩
     have bm:=UD (∀b,FZ b->b≠R) fun b c e=>by
      have g:=C.o;have h2:=d.o.r.lt;rcases(bt.o b c).1 with h|h
      .have:=HF.o b h;omega
      .omega
     have bl:=UD (∀b,FZ b->b≠Q) fun b c e=>by
      have g:=C.o;have h2:=au.o;have h3:=D.o.lt;rcases(bt.o b c).1 with h|h
      .have:=aa.o b h;omega
      .omega
     have dF:=UD (wq.heap.size<=b9.heap.size) cA.o.size;have ds:=UD (Q<b9.heap.size) (Q6 D.o.lt dF.o);obtain⟨Z,dK⟩:=Ue b9.heap.size;rw[<-dK]at aW ds|-;clear dK dj dE bt cA b2 dF;have l:=UD (Chg B aI []) (l.o.trans cB.o);have d:=hZ (d.o.kept cB.o);have D:=hZ (D.o.kept cB.o);have a5:=UD (Chg aI aI []) cR;have et:=l;have dm:=UD (∀b,F b->b<aI.heap.size) fun b c=>Q6 (aa.o b c) (ab.o▸l.o.size);have cG:=hZ (AL.kept (l.o.keepsF (ab.o▸aa.o)) (fun _ h=>h) _ _ cG.o);have cF:=hZ (bq.o.kept l.o)
     have aY:=UD (∀j,Chg aI j []->Cl prog 48 #[nA #[z0,z1,z2,z3,z4,z5],nS p1 ts.length Y] j fun e w'=>e= nR (nI nX (EN rest ts))/\Chg j w' []) fun j r=>
      qi rest FZ _ ts _ j (AL.kept (r.keepsF (fun b c=>(aX.o b c).2)) (fun _ h=>h) _ _ b4.o) (fun b c=>Q6 (aX.o b c).2 r.size) bG.o (cF.o.kept r) am.o.1 am.o.2
     have bP:Ga rest ts u bW=if EN rest ts≠0 then .no (EN rest ts)else Kj (At rest ts u) (Dd rest ts::bW):=rfl;have f:=hZ (f.o.trans bP);clear bP;by_cases az:EN rest ts=0
     .have f:=hZ (f.o.trans (Qs (by simp[az])));have a8:=hZ az;rw[az]at aY;clear az
      have aN:=UD (∀j,Chg aI j []->Cl prog 47 #[nA #[z0,z1,z2,z3,z4,z5],nS p1 ts.length Y,nI nX 1,nA #[m0,m1,m2,m3,m4,m5]] j (qq (fun b=>F b\/FZ b) (At rest ts u) j)) fun j r=>by
       have:=qe ts 1 rest u (fun b=>F b\/FZ b) [z0,z1,z2,z3,z4,z5] [m0,m1,m2,m3,m4,m5] (nS p1 ts.length Y) j ⟨ZM,a8.o,AL.kept (r.keepsF (fun b c=>(aX.o b c).2)) (fun _ h=> .inr h) _ _ b4.o,fun _=>AL.kept (r.keepsF dm.o) (fun _ h=> .inl h) _ _ cG.o,rfl,b1.o,
        fun b c=>Q6 (c.elim (dm.o b) (fun h=>(aX.o b h).2)) r.size,bG.o,bb.o,am.o.2,cF.o.kept r⟩
       rw[qG]at this;exact this
      have bk:=UD (∀j,Chg aI j []->Cl prog 49 #[nA #[z0,z1,z2,z3,z4,z5],nS p1 ts.length Y] j (qK (Dd rest ts) j)) fun j r=>
       qx rest FZ _ ts _ j a8.o (AL.kept (r.keepsF (fun b c=>(aX.o b c).2)) (fun _ h=>h) _ _ b4.o) (fun b c=>Q6 (aX.o b c).2 r.size) bG.o (cF.o.kept r) am.o.1 am.o.2
      have bM:=UD (∀j,Chg B j []->Cl prog 27 #[nA #[m0,m1,m2,m3,m4,m5]] j (mg u j)) fun j r=>
       lZ u F _ j (Ar aJ.o.fits).1 (fun s hs=>(Uy u aJ.o.good aJ.o.fits s hs).keys) (AL.kept (r.keepsF (ab.o▸aa.o)) (fun _ h=>h) _ _ bK.o.2) (fun b c=>Q6 (aa.o b c) (ab.o▸r.size))
      have aG:=UD (sA (Ag (At rest ts u))) (rW bG.o aJ.o am.o.1 am.o.2 a8.o);obtain⟨S,aE⟩:=Ue (At rest ts u);rw[<-aE]at aN aG f;obtain⟨aR,bA⟩:=Ue (Dd rest ts);have dY:=hZ bA;rw[<-bA]at f;clear bk;obtain⟨us,aF⟩:=Ue (aR::bW);rw[<-aF]at f;obtain⟨oA,cP⟩:=Ue aR.toI;have ct:=hZ cP;have bO:=UD (us.map CW.toI=[oA,(⟨1,frm,⟨#[]⟩,MW u⟩:Bq)]) (by rw[aF,List.map_cons,d3.o,cP]);obtain⟨FD,ap⟩:=Ue FZ;have d1:=UD (FD=FZ) ap;have aO:=UD (∀b,FD b->(F b\/w.heap.size<=b)/\b<aI.heap.size) (by rw[ap];exact aX.o);rw[<-ap]at aN bm bl;clear aE bA aF cP ap
      go_upto_region 43 with(first
       |(refine uN aW.o ?_)
       |(go_at_call 48;refine(aY.o _ a5.o).mono ?_;rintro e wm ⟨rfl,g⟩;have ay:=hZ g;clear g))
      have l:=UD (Chg B wm []) (l.o.trans ay.o);have d:=hZ (d.o.kept ay.o);have D:=hZ (D.o.kept ay.o);have aW:=hZ (aW.o.kept ay.o);have a5:=UD (Chg aI wm []) (a5.o.trans ay.o)
      go_upto_region 44 with(first
       |(refine uN aW.o ?_)
       |(refine uN d.o.m ?_)
       |(go_at_call 47;refine(aN.o _ a5.o).mono ?_;rintro e wy ⟨FY,aV,he,W,p,g⟩;obtain⟨y0,y1,y2,y3,y4,y5,rfl⟩:=kt (E7 W).2;have he:e= nR (nA #[y0,y1,y2,y3,y4,y5]):=he;subst he;have bd:=hZ W;have al:=hZ p;have a9:=hZ (E7 W).1;have aQ:=hZ g;clear W p g)
       |(refine uO (D.o.kept aQ.o) a9.o ?_;intro T bD aZ))
      have aU:=UD (Chg wm T [Q]) ((aQ.o.none _).trans aZ.o)
      have aw:=UD (AL T FY S [y0,y1,y2,y3,y4,y5]) (AL.kept (aZ.o.keepsF (fun b c=>(al.o b c).2) (fun b hm c=>by
       obtain rfl:=List.mem_singleton.1 hm;have g:=au.o;have h2:=C.o;have h9:=D.o.lt;rcases(al.o b c).1 with(h|h)|h
       .have:=aa.o b h;omega
       .exact bl.o b h rfl
       .omega)) (fun _ h=>h) _ _ bd.o)
      have ae:=UD (∀b,FY b->(F b\/w.heap.size<=b)/\b<T.heap.size) fun b c=>⟨by
       rcases(al.o b c).1 with(h|h)|h
       .exact .inl h
       .exact(aO.o b h).1
       .have:=(ad.o.trans l.o).size;exact .inr Zj,Q6 (al.o b c).2 aZ.o.size⟩
      have bF:=UD (∀b,FY b->b≠R) fun b c e=>by
       exact z3g
      have l:=UD (Chg B T []) (Chg.fresh l.o aU.o (fun y p=>by have:=C.o;have:=ab.o;have:=au.o;simp at p;omega));have d:=hZ (d.o.kept aU.o z3j);clear D bd al aQ aZ;have D:=bD;have aW:=hZ (aW.o.kept aU.o (by have:=ds.o;simp;omega))
      have bk:=UD (∀j,Chg T j []->Cl prog 49 #[nA #[z0,z1,z2,z3,z4,z5],nS p1 ts.length Y] j (qK aR j)) fun j r=>by
       have hq:Chg B j []:=l.o.trans r;have hz:Chg aI j [Q]:=((a5.o.none _).trans aU.o).trans (r.none _);have:=qx rest FZ _ ts _ j a8.o (AL.kept (hz.keepsF (fun b c=>(aX.o b c).2) (fun b hm c=>bl.o b (d1.o▸c) (List.mem_singleton.1 hm))) (fun _ h=>h) _ _ b4.o) (fun b c=>Q6 (aX.o b c).2 hz.size) bG.o (bq.o.kept hq) am.o.1 am.o.2;rw[<-dY.o]at this;exact this
      have a5:=UD (Chg T T []) cR;obtain⟨n,hn⟩:=Ue ts.length;rw[<-hn]at bk|-;clear hn;have bN:=f;clear f;have f:=hZ (tV.stays T P frm u oA p1 n Y z0 z1 z2 z3 z4 z5 m0 m1 m2 m3 m4 m5);refine uW (qF T (ut) tW (tV P frm u oA p1 n Y z0 z1 z2 z3 z4 z5 m0 m1 m2 m3 m4 m5)) ?_ ?_ ?_
      .intro ii op a m dd ho hF z bU cL hI K hK;obtain⟨O,i⟩:=hI;have hp:=fun k=>bU ⟨k,.data⟩;match ii,ho with
       |0,rfl=>
        have eK:rS a 22=(nP (nM ⟨Z,0,nN⟩)):=hF.at 22 Yb;have av:Chg T m []:=i.chg [] (fun b k g _=>by cases g);obtain⟨ga,gb,g0,g1,g2,g3,g4,g5⟩:=(aW.o.kept av).cells6;exact z3d
       |1,rfl=>
        have h8:rS a 8=(nS p1 n Y):=hF.at 8 Yb;exact z3d
       |2,rfl=>
        have eG:rS a 200=(nA #[z0,z1,z2,z3,z4,z5]):=i.say 0 (hp 0 Zh rfl) (lq rfl);have eH:rS a 201=(nS p1 n Y):=i.say 1 (hp 1 Zh rfl) (lq rfl);have av:Chg T m []:=i.chg [] (fun b k g _=>by cases g);go_simp;go_at_call 49;refine(bk.o m (a5.o.trans av)).mono ?_;rintro e w6 ⟨sv,ys,G,he,hu,h6⟩;have he:e= nR (nA #[nI nX oA.kind,nG oA.path,nG oA.frm,sv]):=he.trans (by rw[ct.o];rfl);subst he;exact hK _ _ Zh (i.new f.o z h6 (O':=G) ⟨sv,ys,rfl,by rw[ct.o];exact hu.row,hu.inn,by rw[ct.o];exact hu.steps⟩ hu.new)
       |3,rfl=>
        exact z3n
       |4,rfl=>
        have eI:rS a 203=(nP (nM ⟨P,2,nN⟩)):=i.say 3 (hp 3 Zh rfl) (lq rfl);exact z3k
       |5,rfl=>
        have eF:rS a 18=(nP (nM ⟨M,0,nN⟩)):=hF.at 18 Yb;have av:Chg T m []:=i.chg [] (fun b k g _=>by cases g);obtain⟨ga,gb,g0,g1,g2,g3,g4,g5⟩:=(d.o.m.kept av).cells6;exact z3d
       |6,rfl=>
        have eJ:rS a 205=(nA #[m0,m1,m2,m3,m4,m5]):=i.say 5 (hp 5 Zh rfl) (lq rfl);exact z3h
       |7,rfl=>
        have ec:a.tmps.getD 204 undef=(nG frm):=i.say 4 (hp 4 Zh rfl) (lq rfl);have af:=hp 6 Zh rfl;have aT:=i.say 6 af (lr (u:=tW) rfl z);obtain⟨ys,q,v,k3⟩:=aT;have q:As m (a.tmps.getD 206 undef) 6 (MW u).length ys:=q;have v:SE (O 6) (a.tmps.getD 206 undef):=v;obtain⟨sv,aD⟩:∃sv,a.tmps.getD 206 undef=sv:=⟨_,rfl⟩;rw[aD]at q v;have aj:∀b,O 6 b->b<m.heap.size:=fun b c=>(i.own 6 af (lr (u:=tW) rfl z) b c).1;obtain⟨va,vc,rfl,_⟩:=q.form;have gp:a.tmps[204]?.getD undef= nG frm:=by rw[<-Qp];exact ec
        have gs:a.tmps[206]?.getD undef= nS va (MW u).length vc:=by rw[<-Qp];exact aD
        go_simp;exact hK _ _ Zh ⟨_,i.next f.o z (O':=O 6) (show Chg m m []from Chg.refl m []) ⟨_,ys,rfl,q,v,k3⟩ aj (fun b c=> .inr (.inr ⟨6,rfl,af,c⟩)) (fun b c=>by cases c)⟩
       |8,rfl=>
        have cX:=hp 2 Zh rfl;obtain⟨eM,eO,el,dW,en,ep⟩:=i.say 2 cX (lr (u:=tW) rfl z);have dR:∀b,O 2 b->b<m.heap.size:=fun b c=>(i.own 2 cX (lr (u:=tW) rfl z) b c).1;obtain⟨c8,da,rfl,_⟩:=dW.form;have ej:a.tmps.getD 202 undef= nA #[nI nX oA.kind,nG oA.path,nG oA.frm,nS c8 oA.steps.length da]:=el;have ev:a.tmps[202]?.getD undef= nA #[nI nX oA.kind,nG oA.path,nG oA.frm,nS c8 oA.steps.length da]:=by rw[<-Qp];exact ej
        have cY:=hp 7 Zh rfl;obtain⟨eN,eP,em,dX,eo,er⟩:=i.say 7 cY (lr (u:=tW) rfl z);have dS:∀b,O 7 b->b<m.heap.size:=fun b c=>(i.own 7 cY (lr (u:=tW) rfl z) b c).1;obtain⟨c9,db,rfl,_⟩:=dX.form;have ek:a.tmps.getD 207 undef= nA #[nI nX 1,nG frm,nG ⟨#[]⟩,nS c9 (MW u).length db]:=em;have ew:a.tmps[207]?.getD undef= nA #[nI nX 1,nG frm,nG ⟨#[]⟩,nS c9 (MW u).length db]:=by rw[<-Qp];exact ek
        go_simp
        exact hK _ _ Zh ⟨_,i.next f.o z (O':=fun b=>b=m.heap.size\/O 2 b\/O 7 b) ((Chg.refl m []).alloc _) (qg.two dW en ep dX eo er dR dS ((Chg.refl m []).alloc _) (BD _ _ [nI nX oA.kind,nG oA.path,nG oA.frm,nS c8 oA.steps.length da,nI nX 1,nG frm,nG ⟨#[]⟩,nS c9 (MW u).length db] _ _ rfl Zh)) (fun b c=>by
         rcases c with rfl|c|c
         .simp
         .have:=dR b c;simp;omega
         .have:=dS b c;simp;omega) (fun b c=>by
         rcases c with rfl|c|c
         .exact .inl (Q8 _)
         .exact .inr (.inr ⟨2,rfl,cX,c⟩)
         .exact .inr (.inr ⟨7,rfl,cY,c⟩)) (fun b c=>by cases c)⟩
       |9,rfl=>
        have af:=hp 8 Zh rfl;have aT:=i.say 8 af (lr (u:=tW) rfl z);obtain⟨xs,q,v,k3⟩:=aT;have q:As m (a.tmps.getD 208 undef) 4 2 xs:=q;have v:SE (O 8) (a.tmps.getD 208 undef):=v;obtain⟨sv,aD⟩:∃sv,a.tmps.getD 208 undef=sv:=⟨_,rfl⟩;rw[aD]at q v;have aj:∀b,O 8 b->b<m.heap.size:=fun b c=>(i.own 8 af (lr (u:=tW) rfl z) b c).1;go_simp;exact hK _ _ Zh ⟨_,i.next f.o z (O':=O 8) (show Chg m m []from Chg.refl m []) ⟨xs,q,v,k3⟩ aj (fun b c=> .inr (.inr ⟨8,rfl,af,c⟩)) (fun b c=>by cases c)⟩
       |_+10,ho=>exact absurd ho Zh
      .intro a V dd hF hd hI;obtain⟨O,i⟩:=hI;clear f;have f:=bN;obtain⟨xs,q,v,k3⟩:=i.say 9 (hd 9 ZM) (lq rfl);have cV:=i.own 9 (hd 9 ZM) (lq rfl);have q:As V (a.tmps.getD 20 undef) 4 2 xs:=q;have v:SE (O 9) (a.tmps.getD 20 undef):=v;obtain⟨sv,br⟩:∃sv,a.tmps.getD 20 undef=sv:=⟨_,rfl⟩;rw[br]at q v;obtain⟨va,vc,rfl,_⟩:=q.form;have an:=UD (Chg T V []) (i.chg [] (fun b k g _=>by cases g))
       have bo:=UD (∀b,O 9 b->T.heap.size<=b/\b<V.heap.size) fun b c=>⟨by
        by_cases aj:b<T.heap.size
        .obtain⟨k,Y,_⟩:=(cV b c).2 aj;cases Y
        .omega,(cV b c).1⟩
       have bc:=UD (EW w V (us.map CW.toI) (nS va 2 vc) xs (O 9)) z3m;have bH:=UD (∀b,O 9 b->b≠R) fun b c e=>z3x
       have aw:=UD (AL V FY S [y0,y1,y2,y3,y4,y5]) (AL.kept (an.o.keepsF (fun b c=>(ae.o b c).2)) (fun _ h=>h) _ _ aw.o);have ae:=UD (∀b,FY b->(F b\/w.heap.size<=b)/\b<V.heap.size) fun b c=>⟨(ae.o b c).1,Q6 (ae.o b c).2 an.o.size⟩;clear i hd cV q v k3;have l:=UD (Chg B V []) (l.o.trans an.o);have d:=hZ (d.o.kept an.o);have D:=hZ (D.o.kept an.o);obtain⟨fu,hu,bQ⟩:=hF.fin [200,201,202,203,204,205,206,207,208,20] Yb;exact z3c
      .exact z3p
     .have f:=hZ (f.o.trans (Qr az));obtain⟨mn,bT⟩:=Ue (EN rest ts);rw[<-bT]at aY az f;have ei:((mn:Int) !=0)=true:=bne_iff_ne.2 Zj;clear bT az
      go_upto_region 42 with(first
       |(refine uN aW.o ?_)
       |(go_at_call 48;refine(aY.o _ a5.o).mono ?_;rintro e wm ⟨rfl,g⟩;have ay:=hZ g;clear g))
      exact z3t
 focus
  have HK:=hZ H;rw[H]at r0;have bb:=UD (DR ts) (PK aP.o z3l);go_upto_region 11 with(fail);go_upto_region 13 with(fail)
  obtain⟨LT,aq⟩:=Ue (Ah t ax);rw[<-aq]at bK|-;have ah:=hZ aq;clear aq;rcases LT with _|x
  .simp only[Option.isSome_none];have f:=UD (ar= .no 4) (aB.o.trans z3o);clear H;go_upto_region 14 with(fail)
   exact z3b
  simp only[Option.isSome_some];have f:=UD (ar=Ga t ts x []) (aB.o.trans z3o);have aL:AL B F x [m0,m1,m2,m3,m4,m5]:=bK.o.2;have b1:=hZ (E7 aL).1;have dl:=UD (Bt x) (aA.o.lead ah.o.symm);obtain⟨FD,ap⟩:=Ue F;have b3:=UD (AL B FD x [m0,m1,m2,m3,m4,m5]) (by rw[ap];exact aL);have aO:=UD (∀b,FD b->(F b\/w.heap.size<=b)/\b<X) (by rw[ap];exact fun b c=>⟨.inl c,aa.o b c⟩);have bm:=UD (∀b,FD b->b≠R) (by rw[ap];exact fun b c e=>by have:=HF.o b c;have:=C.o;omega);have b0:=b1;clear aL ap H;go_upto_region 15 with(fail);go_upto_region 17 with(fail)
  go_upto_region 19 with(fail)
  go_upto_region 22 with(first
   |(refine uN d.o.a ?_)
   |(refine kM w9 ak.o ?_;intro wu D ai;obtain⟨ql,qf,s0,s1,s2,s3⟩:=(d.o.p.kept ai.o).cells4;rw[HK.o]at s0))
  obtain⟨Q,hQ⟩:=Ue w9.heap.size;have au:=UD (M<Q) z3q;rw[<-hQ]at D|-;clear hQ;have l:=UD (Chg B wu []) (l.o.trans ai.o);have d:=hZ (d.o.kept ai.o)
  go_upto_region 24 with(first
   |(refine uN d.o.m ?_)
   |(refine uO d.o.x b1.o ?_;intro wq d0 cz))
  have l:=UD (Chg B wq []) (Chg.fresh l.o cz.o (fun y p=>by have:=C.o;have:=ab.o;have:=au.o;simp at p;omega));have D:=hZ (D.o.kept cz.o (by have:=C.o;have:=au.o;simp;omega));have d:=hZ (d.o.putX cz.o d0.o (by have:=C.o;intro b c;simp at c|-;omega))
 rotate_left
 .have HK:=hZ H;rw[H]at r0;go_upto_region 11 with(fail);go_upto_region 13 with(fail)
  go_upto_region 15 with(fail);obtain⟨LT,aq⟩:=Ue (Ah t ts)
  rw[<-aq]at bv|-;have ah:=hZ aq;clear aq;cases LT with
  |none=>
   simp only[Option.isSome_none];have bg:Da t o ts ax ((AS o.steps).getD .null)= .no 4:=z3o
   have f:=hZ (aB.o.trans bg);clear bg H;exact z3v
  |some u=>
   simp only[Option.isSome_some];obtain⟨x,r⟩:=cj.o (by rw[H];rfl);obtain⟨aL,bf⟩:=cI.o x r;have bh:AL B F u [l0,l1,l2,l3,l4,l5]:=bv.o.2;have dO:Bt u:=aA.o.lead ah.o.symm
   have cx:=UD (Cl prog 46 #[nA #[l0,l1,l2,l3,l4,l5],nA #[x0,x1,x2,x3,x4,x5]] w9 fun e w'=>e= nR (.bool (BQ u x))/\Chg w9 w' []) (tz _ u x (fun b=>F b\/Fx b) _ _ w9 (Q8 _)
    (AL.kept (l.o.keepsF (ab.o▸aa.o)) (fun _ h=> .inl h) _ _ bh) (AL.kept (l.o.keepsF (ab.o▸fun b c=>(a7.o b c).2)) (fun _ h=> .inr h) _ _ aL)
    (fun b c=>Q6 (c.elim (aa.o b) (fun h=>(a7.o b h).2)) (ab.o▸l.o.size)) dO bf)
   have bg:Da t o ts ax ((AS o.steps).getD .null)=if BQ u x=true then .yes t []else .no 173:=by rw[r];unfold Da;rw[H,<-ah.o];rfl
   have f:=hZ (aB.o.trans bg);obtain⟨sb,dT⟩:=Ue (BQ u x);rw[<-dT]at cx f;clear bg dT r aL bf bh dO H;go_upto_region 17 with(fail);obtain⟨ll,lf,i0,i1,i2,i3,i4,i5⟩:=d.o.l.cells6;obtain⟨xl,xf,j0,j1,j2,j3,j4,j5⟩:=d.o.x.cells6
   cases sb with
   |false=>
    go_upto_region 18 with(first
    |(go_at_call 46;refine cx.o.mono ?_;rintro e m ⟨rfl,g⟩;have bL:=hZ g;clear g))
    have f:=UD (ar= .no 173) z3r;have l:=UD (Chg B m []) (l.o.trans bL.o);have d:=hZ (d.o.kept bL.o)
    exact z3b
   |true=>
    go_upto_region 20 with(first
    |(go_at_call 46;refine cx.o.mono ?_;rintro e m ⟨rfl,g⟩;have bL:=hZ g;clear g))
    have f:=UD (ar= .yes t []) z3r;have l:=UD (Chg B m []) (l.o.trans bL.o);have d:=hZ (d.o.kept bL.o)
    go_upto_region 30 with(first
     |(refine uN d.o.a ?_)
     |(refine kM m ak.o ?_;intro wq D ai;obtain⟨ql,qf,s0,s1,s2,s3⟩:=(d.o.p.kept ai.o).cells4;rw[HK.o]at s0))
    have l:=UD (Chg B wq []) (l.o.trans ai.o);have d:=hZ (d.o.kept ai.o)
    exact z3e
 all_goals
  obtain⟨n0,n1,n2,n3,n4,n5,b3,b0,d⟩:∃n0 n1 n2 n3 n4 n5,Hid (AL B FD x [n0,n1,n2,n3,n4,n5])/\Hid (∀u∈[n0,n1,n2,n3,n4,n5],u.oneCell'=true)/\Hid (uF A P R X L M [c0,c1,c2,c3,c4,c5] [nI nX o.kind,nG o.path,nG o.frm,nS sa o.steps.length sc] [n0,n1,n2,n3,n4,n5] [l0,l1,l2,l3,l4,l5] [m0,m1,m2,m3,m4,m5] wq):=⟨_,_,_,_,_,_,b3,b0,d⟩
  have aY:=UD (∀j,Chg B j []->Cl prog 48 #[nA #[c0,c1,c2,c3,c4,c5],nS p1 ts.length Y] j fun e w'=>e= nR (nI nX (EN t ts))/\Chg j w' []) fun j r=>
   qi t F _ ts _ j (AL.kept (r.keepsF (ab.o▸aa.o)) (fun _ h=>h) _ _ bz.o) (fun b c=>Q6 (aa.o b c) (ab.o▸r.size)) aA.o (bq.o.kept r) am.o.1 am.o.2
  have bP:Ga t ts x []=if EN t ts≠0 then .no (EN t ts)else Kj (At t ts x) [Dd t ts]:=rfl;have f:=hZ (f.o.trans bP);clear bP;by_cases az:EN t ts=0
  .have f:=hZ (f.o.trans (Qs (by simp[az])));have a8:=hZ az;rw[az]at aY;clear az
   have aN:=UD (∀j,Chg B j []->Cl prog 47 #[nA #[c0,c1,c2,c3,c4,c5],nS p1 ts.length Y,nI nX 1,nA #[n0,n1,n2,n3,n4,n5]] j (qq (fun b=>F b\/FD b) (At t ts x) j)) fun j r=>by
    have:=qe ts 1 t x (fun b=>F b\/FD b) [c0,c1,c2,c3,c4,c5] [n0,n1,n2,n3,n4,n5] (nS p1 ts.length Y) j ⟨ZM,a8.o,AL.kept (r.keepsF (ab.o▸aa.o)) (fun _ h=> .inl h) _ _ bz.o,fun _=>AL.kept (r.keepsF (ab.o▸fun b c=>(aO.o b c).2)) (fun _ h=> .inr h) _ _ b3.o,rfl,b0.o,
     fun b c=>Q6 (c.elim (aa.o b) (fun h=>(aO.o b h).2)) (ab.o▸r.size),aA.o,bb.o,am.o.2,bq.o.kept r⟩
    rw[qG]at this;exact this
   have bk:=UD (∀j,Chg B j []->Cl prog 49 #[nA #[c0,c1,c2,c3,c4,c5],nS p1 ts.length Y] j (qK (Dd t ts) j)) fun j r=>
    qx t F _ ts _ j a8.o (AL.kept (r.keepsF (ab.o▸aa.o)) (fun _ h=>h) _ _ bz.o) (fun b c=>Q6 (aa.o b c) (ab.o▸r.size)) aA.o (bq.o.kept r) am.o.1 am.o.2
   have aG:=UD (sA (Ag (At t ts x))) (rW aA.o dl.o am.o.1 am.o.2 a8.o);have bl:=UD (∀b,FD b->b≠Q) fun b c=>z3w
   obtain⟨S,aE⟩:=Ue (At t ts x);rw[<-aE]at aN aG f;obtain⟨aR,bA⟩:=Ue (Dd t ts);rw[<-bA]at bk f;clear aE bA
   go_upto_region 27 with(first
    |(refine uN d.o.a ?_)
    |(go_at_call 48;refine(aY.o _ l.o).mono ?_;rintro e wm ⟨rfl,g⟩;have ay:=hZ g;clear g))
   have l:=UD (Chg B wm []) (l.o.trans ay.o);have d:=hZ (d.o.kept ay.o);have D:=hZ (D.o.kept ay.o)
   go_upto_region 28 with(first
    |(refine uN d.o.a ?_)
    |(refine uN d.o.x ?_)
    |(go_at_call 47;refine(aN.o _ l.o).mono ?_;rintro e wy ⟨FY,aV,he,W,p,g⟩;obtain⟨y0,y1,y2,y3,y4,y5,rfl⟩:=kt (E7 W).2;have he:e= nR (nA #[y0,y1,y2,y3,y4,y5]):=he;subst he;have bd:=hZ W;have al:=hZ p;have a9:=hZ (E7 W).1;have aQ:=hZ g;clear W p g)
    |(refine uO (D.o.kept aQ.o) a9.o ?_;intro T bD f))
   have aU:=UD (Chg wm T [Q]) ((aQ.o.none _).trans f.o)
   have aw:=UD (AL T FY S [y0,y1,y2,y3,y4,y5]) (AL.kept (f.o.keepsF (fun b c=>(al.o b c).2) (fun b hm c=>by
    obtain rfl:=List.mem_singleton.1 hm;have g:=au.o;have h2:=C.o;have h9:=D.o.lt;rcases(al.o b c).1 with(h|h)|h
    .have:=aa.o b h;omega
    .exact bl.o b h rfl
    .omega)) (fun _ h=>h) _ _ bd.o)
   have ae:=UD (∀b,FY b->(F b\/w.heap.size<=b)/\b<T.heap.size) fun b c=>⟨by
    rcases(al.o b c).1 with(h|h)|h
    .exact .inl h
    .exact(aO.o b h).1
    .have:=(ad.o.trans l.o).size;exact .inr Zj,Q6 (al.o b c).2 f.o.size⟩
   have bF:=UD (∀b,FY b->b≠R) fun b c e=>by
    exact z3g
   have l:=UD (Chg B T []) (Chg.fresh l.o aU.o (fun y p=>by have:=C.o;have:=ab.o;have:=au.o;simp at p;omega));have d:=hZ (d.o.kept aU.o z3j);clear D bd al aQ f;have D:=bD
   go_upto_region 45 with(first
    |(refine uN d.o.a ?_)
    |(go_at_call 49;refine(bk.o _ l.o).mono ?_;rintro e wu ⟨sv,ys,GU,he,hu,g⟩;obtain⟨va,vc,rfl,_⟩:=hu.row.form;have he:e= nR (nA #[nI nX aR.toI.kind,nG aR.toI.path,nG aR.toI.frm,nS va aR.toI.steps.length vc]):=he;subst he;have dC:=hZ hu;have cy:=hZ g;clear hu g))
   obtain⟨N,hN⟩:=Ue wu.heap.size;obtain⟨wE,b8⟩:=Ue (wu.alloc (nC #[nI nX aR.toI.kind,nG aR.toI.path,nG aR.toI.frm,nS va aR.toI.steps.length vc] 42));have dh:Hid (Chg wu wE []):=by rw[b8];exact hZ ((Chg.refl wu []).alloc _)
   have dZ:Hid (Ac wE wu.heap.size (BJ aR.toI (nS va aR.toI.steps.length vc)) 42):=by rw[b8];exact hZ (Ac.new wu (BJ aR.toI (nS va aR.toI.steps.length vc)) _)
   have bc:=UD (EW w wE ([aR].map CW.toI) (nS (nM ⟨N,0,nN⟩) 1 1) (BJ aR.toI (nS va aR.toI.steps.length vc)) (fun b=>b=N\/GU b)) (by rw[hN];exact EW.one (dC.o.kept (show Chg wu wu []from Chg.refl wu []) (fun b c=>by cases c) (ad.o.trans l.o).size) ((ad.o.trans l.o).trans cy.o).size dh.o dZ.o (Q8 _))
   have bH:=UD (∀b,(b=N\/GU b)->b≠R) fun b c e=>by
    have g:=d.o.r.lt;have h2:=cy.o.size;rcases c with h|h
    .omega
    .have:=(dC.o.new b h).1;omega
   have an:=UD (Chg T wE []) (cy.o.trans dh.o);have aw:=UD (AL wE FY S [y0,y1,y2,y3,y4,y5]) (AL.kept (an.o.keepsF (fun b c=>(ae.o b c).2)) (fun _ h=>h) _ _ aw.o);have ae:=UD (∀b,FY b->(F b\/w.heap.size<=b)/\b<wE.heap.size) fun b c=>⟨(ae.o b c).1,Q6 (ae.o b c).2 an.o.size⟩;change Code.wp _ _ _ _ (wu.alloc (nC #[nI nX aR.toI.kind,nG aR.toI.path,nG aR.toI.frm,nS va aR.toI.steps.length vc] 42));rw[<-b8,<-hN];clear b8 hN;have l:=UD (Chg B wE []) (l.o.trans an.o);have d:=hZ (d.o.kept an.o);have D:=hZ (D.o.kept an.o);obtain⟨us,aF⟩:=Ue ([aR]);rw[<-aF]at bc f;clear aF;have aS:=UD (Cl prog 50 #[nA #[y0,y1,y2,y3,y4,y5]] wE fun e w'=>e= nR (.bool (Ag S).within)/\Chg wE w' []) (Ex S FY _ wE aG.o.nodes aG.o.bytes aG.o.depth aw.o (fun b c=>(ae.o b c).2));have be:Kj S us=if(Ag S).within=true then .yes S us else .no 3:=rfl;have f:=hZ (f.o.trans be);obtain⟨wi,bi⟩:=Ue ((Ag S).within);rw[<-bi]at aS f;clear bi be;cases wi with
   |false=>
    exact z3f
   |true=>
    have f:=UD (ar= .yes S us) z3r
    go_wp2_with(first
     |(refine uN D.o ?_)
     |(go_at_call 50;refine aS.o.mono ?_;rintro e bj ⟨rfl,g⟩;have ao:=hZ g;clear g)
     |(refine uN (D.o.kept ao.o) ?_)
     |(refine uO (d.o.r.kept ao.o) a9.o ?_;intro I J U))
    refine bodyPost_ret (uR J.o) rfl ?_;have aC:Chg wE I [R]:=(ao.o.none _).trans U.o;have E:Chg w I []:=Chg.fresh (ad.o.trans l.o) aC (fun y p=>by have:=C.o;simp at p;omega);rw[f.o];exact⟨FY,_,_,_,_,rfl,AL.kept (aC.keepsF (fun b c=>(ae.o b c).2) (fun b hm c=>bF.o b c (List.mem_singleton.1 hm))) (fun _ h=>h) _ _ aw.o,fun b c=>⟨(ae.o b c).1,Q6 (ae.o b c).2 aC.size⟩,EW.kept bc.o aC (fun b hm c=>bH.o b c (List.mem_singleton.1 hm)) (Q8 _),E⟩
  .have f:=hZ (f.o.trans (Qr az));obtain⟨mn,bT⟩:=Ue (EN t ts);rw[<-bT]at aY az f;have ei:((mn:Int) !=0)=true:=bne_iff_ne.2 Zj;clear bT az
   go_upto_region 26 with(first
    |(refine uN d.o.a ?_)
    |(go_at_call 48;refine(aY.o _ l.o).mono ?_;rintro e wm ⟨rfl,g⟩;have ay:=hZ g;clear g))
   exact z3t
end
end Go.Proofs.YtpdnhfkacgdocaaGreatDoor

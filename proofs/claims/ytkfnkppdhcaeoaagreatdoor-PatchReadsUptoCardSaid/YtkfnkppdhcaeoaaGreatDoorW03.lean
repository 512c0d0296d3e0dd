/- Part 3 of the proof of patchReads_card. -/
import Derived.Test.YtkfnkppdhcaeoaaGreatDoorM28
import Derived.Test.YtkfnkppdhcaeoaaGreatDoorW02
set_option maxRecDepth 100000
set_option maxHeartbeats 32000000
set_option linter.all false
namespace Go.Proofs.YtkfnkppdhcaeoaaGreatDoor
open Go renaming Calls->Cl,TypeId->Ti,Value->Vl,World->Wl
open Go.Value renaming agg->nA,iface->nF,int->nI,pointer->nP,slice->nS,string->nG,tuple->nT
open Go.IntKind renaming i64->nX
open Go.Ending renaming returned->nR
open Go.Obj renaming cells->nC
open Option renaming none->nN,some->nM
section
open Go Go.Shelf Go.RowKit Go.Lib Tree Ptr
structure fT(w0:Wl)(os:List Bq)(i:Nat)(sv:Vl)(w:Wl):Prop where
 ex:∃xs G,Ba w sv 42 4 i xs/\Eh w G (os.take i) xs/\(∀b,G b->w0.heap.size<=b/\b<w.heap.size)/\∀g,sv.ownBlock=nM g->w0.heap.size<=g/\¬G g
 chg:Chg w0 w []
theorem fT.next{w0 wr c t k:Wl}{os:List Bq}{i g u:Nat}{o:Bq}{sv p:Vl}{xs ys:List Vl}{G d:Nat->Prop}(w:Chg w0 wr [])(D:Ba wr sv 42 4 i xs)(E:Eh wr G (os.take i) xs)(r:∀b,G b->w0.heap.size<=b/\b<wr.heap.size)(n:∀g,sv.ownBlock=nM g->w0.heap.size<=g/\¬G g)(J:os[i]? =nM o)(q:Chg wr c [])(F:As c p 6 o.steps.length ys)(v:SE d p)(H:Cr c d o.steps ys)(f:∀b,d b->wr.heap.size<=b/\b<c.heap.size)(l:Chg c t [])(C:Ba k (nS (nM ⟨g,0,nN⟩) (i+1) u) 42 4 (i+1) (xs++BJ o p))(m:Chg t k sv.ownBlock.toList)(I:sv.ownBlock=nM g\/g=t.heap.size):fT w0 os (i+1) (nS (nM ⟨g,0,nN⟩) (i+1) u) k:=by
 have M:=q.size;have N:=l.size;have O:=m.size;have L:=w.size;have x:∀y,sv.ownBlock=nM y->y<wr.heap.size:=fun y j=>D.lt j
 have K:BZ G wr k:=((q.trans l).none sv.ownBlock.toList|>.trans m).keepsF (fun b a=>(r b a).2) (fun b s a=>(n b (by simpa using s)).2 a);have z:BZ d c k:=((l.none sv.ownBlock.toList).trans m).keepsF (fun b a=>(f b a).2) (fun b s a=>by have A:=x b (by simpa using s);have B:=(f b a).1;omega);refine⟨⟨_,fun b=>G b\/d b,C, ?_,fun b a=> ?_,fun y j=> ?_⟩,((w.trans q).trans l).fresh m (fun y j=>(n y (by simpa using j)).1)⟩
 .rw[Cb J]
  refine(Eh.kept K (fun _ h=> .inl h) E).append ⟨p,ys,[],by simp,F.keptF v z,v.mono (fun _ h=> .inr h),Cr.kept z (fun _ h=> .inr h) H,rfl⟩
 .rcases a with a|a
  .have:=r b a;omega
  .have:=f b a;omega
 .have e:g=y:=by injection j
  subst e
  rcases I with h|h
  .refine⟨(n g h).1,fun a=> ?_⟩
   rcases a with a|a
   .exact(n g h).2 a
   .have A:=x g h;have B:=(f g a).1;omega
  .refine⟨by omega,fun a=> ?_⟩
   rcases a with a|a
   .have:=r g a;omega
   .have:=f g a;omega
theorem fT.done{w0 w:Wl}{os:List Bq}{sv:Vl}{n:Nat}(h:fT w0 os n sv w)(j:n=os.length):∃xs G,EW w0 w os sv xs G:=by
 obtain⟨xs,G,f,d,g,i⟩:=h.ex;subst j;rw[List.take_length]at d;refine⟨xs,fun b=>G b\/sv.ownBlock=nM b,f.rowC (by rw[d.length]),fun b o n c e=> ?_,Eh.kept (fun _ _ _=>rfl) (fun _ h=> .inl h) d,fun b a=> ?_⟩
 .rw[e];exact .inr rfl
 .rcases a with a|a
  .exact g b a
  .exact⟨(i b a).1,f.lt a⟩
theorem fT.start{w a:Wl}{os:List Bq}(h:Chg w a []):fT w os 0 (nS nN 0 0) a:=⟨⟨[],fun _=>False,Ba.nil _ _ _,rfl,fun b (c:False)=>c.elim,fun g d=>by cases d⟩,h⟩
theorem fX(k:Nat)(h:k<100000):(⟨(Go.Lib.decDigits k).toArray⟩:BY).size<=11:=by
 have a:=(IX 5 k h).resolve_right (by omega)
 show(Go.Lib.decDigits k).toArray.size<=11
 rw[List.size_toArray];omega
theorem gu(i:Nat)(h:i<100000):(XP i).size<=1000:=by
 have:=fX i h;unfold XP;rw[ByteArray.size_append];have:Zb.size=1:=rfl;omega
theorem gd{t u:Tr}(h:Bt t)(a:u∈Ab t):Bt u:=⟨h.good.items u a,C8 h.fits a⟩
def gE(os:List Bq)(w:Wl)(e:Ending)(w':Wl):Prop:=∃a xs G,e= nR (nT #[a,.nilIface])/\EW w w' os a xs G/\Chg w w' []
end
section
open _root_.Go.Proofs.Tryz
open Go Go.Shelf Go.RowKit Go.Lib Tree Ptr
theorem E0{P:Program}{c:Func}{r p q:Tmp}{b:Ti}(h:c.results=#[.tmp r,.cell p b,.tmp q])(a:Array Vl)(w:Wl)(g:Nat)(T:Ti)(cs:List Vl)(d:TypeDesc)(i:a.getD p undef= nP (nM ⟨g,0,nN⟩))(e:Ac w g cs T)(l:P.underlying b=nM d)(f:(match d with| .struct _| .array _ _=>true|_=>false)=true)(hi:(P.info? b).map (·.size)=nM cs.length):
  (results c a).run P w= .ok (nT #[a.getD r undef,nA cs.toArray,a.getD q undef]) w:=by
 have j:a[p]?.getD undef= nP (nM ⟨g,0,nN⟩):=by simpa using i
 have k:=run_loadVar_row (P:=P) w g T b cs.toArray (0,0) d e l f (by simpa using hi);simp[results,h,j,asAddr,k]
theorem Gj{P:Program}{o:Oper}{a:Act}{w:Wl}{Q:Exit->Act->Wl->Prop}{K:Act->Wl->Prop}(c:Ti)(x y:Operand)(i:o.op= .store c x y)(g:Nat)(b:List Vl)(k:a.eval x= nP (nM ⟨g,0,nN⟩))(l:a.eval y= nA b.toArray)(T:Ti)(cs:List Vl)(d:Ac w g cs T)(hi:(P.info? c).map (·.size)=nM b.length)(f:cs.length=b.length)(e:∀v∈b,v.oneCell'=true)(h:∀w',w'.heap.size=w.heap.size->Ac w' g b T->Chg w w' [g]->K (a.put o.dst undef) w'):Oper.wp P o a w K Q:=
 wp_store_row c x y i g b.toArray k l T cs.toArray d (by simpa using hi) (by simpa using f) (Array.all_eq_true_iff_forall_mem.2 fun v j=>e v (by simpa using j))
  (h _ Zh (d.row b) ((Chg.refl _ _).setRow _ _ Zh))
def ZT(r:Option Tr)(w:Wl)(e:Ending)(w':Wl):Prop:=(match r with
 |some t=>∃(F a:Nat->Prop) (cs:List Vl) (c:Nat),e= nR (nT #[nP (nM ⟨c,0,nN⟩),nA cs.toArray,.bool true])/\AL w' F t cs/\(∀b,F b->w.heap.size<=b/\b<w'.heap.size)/\CG w' a c t/\(∀b,a b->w.heap.size<=b/\b<w'.heap.size)/\Bt t
 |none=>e= nR (nT #[nP nN,nA zV.toArray,.bool false]))/\Chg w w' []
theorem KR.stored{g:Wl}{R B:Nat}{cs:List Vl}{T:Ti}{s:Nat}{V:Nat->Vl->Prop}{d:Nat->Bool}{f:Nat->Vl}{w w':Wl}(h:KR g R B cs T s V d f w)(i:V s undef)(a:Ac w' R cs T)(b:Chg w w' [R]):KR g R B cs T s V (BA d s) (Eb f s undef) w':=
 ⟨h.chg.trans b,h.src.kept b (by simpa using h.ne),h.ne,⟨cs,a,rfl⟩,fun _=>a,fun k c=>by
  by_cases e:k=s
  .subst e;rw[Bf];exact i
  .rw[AA f _ e];rw[An d e]at c;exact h.vals k c⟩
def aj(cs:List Vl)(j:Nat)(y:Vl):Prop:=match j with
 |0=>y= nA cs.toArray
 |1=>y= nP nN
 |3=>y= .bool false
 |_=>True
def WS(a:Nat)(cs:List Vl)(j:Nat)(y:Vl):Prop:=match j with
 |0=>y= nP (nM ⟨a,0,nN⟩)
 |1=>y= nA cs.toArray
 |2=>y= .nilIface
 |3=>y= .bool true
 |4=>y= .bool true
 |5=>y= nP (nM ⟨a,0,nN⟩)
 |6=>y= .bool true
 |7=>y= .bool true
 |8=>y= nP (nM ⟨a,0,nN⟩)
 |10=>y= .bool true
 |_=>True
theorem WL(l:List Ap)(sl:Vl)(xs:List Vl)(w:Wl)(hR:As w sl 6 l.length xs)(hS:Az w l xs)(f:∀s∈l,Di s)(W:l.length<=4294967296):
  Cl prog 12 #[sl] w (ZT (AS l) w):=by
 obtain⟨sa,sc,rfl,aL,aN⟩:=hR.form;have O:=UD (∀x,Chg w x []->Cl prog 41 #[nS sa l.length sc] x (ZY (AS l) x)) fun x Y=>Vq l _ xs x (hR.kept Y) (Az.kept Y hS) f W
 have L:=UD (∀x,Chg w x []->Cl prog 28 #[nS sa l.length sc] x (BO l x)) fun x Y=>Fk l _ xs x (hR.kept Y) (Az.kept Y hS) f W
 have af:=UD (∀t,AS l=nM t->Bt t) fun t ht=>FD f ht
 have e0:(if l.length<=65536 then CA l else nN)=AS l:=rfl;obtain⟨n,hn⟩:=Ue l.length
 unfold BO at L;rw[e0]at L;rw[<-hn]at O L|-;clear hR hS f W aN aL hn e0
 cases T:AS l with
 |none=>
  rw[T]at O;clear L af T;go_enter func12,ntmps12
  go_wp2_with fail
  refine(O.o _ (by exact cg cR)).mono ?_;rintro e j ⟨rfl,y⟩;have H1:=UD (Chg w j []) (((Chg.refl w []).alloc _).trans y);have G:=UD (Ac j w.heap.size zV 29) ((BD w _ zV _ _ rfl rfl).kept y);obtain⟨cs,M⟩:=Ue zV
  have B:=UD ((prog.info? 29).map (·.size)=nM cs.length) (by rw[M];exact A9);have N:=UD (∀u∈cs,u.oneCell'=true) (by rw[M];exact Ya);have P:=UD (zV.length=cs.length) (by rw[M]);have aE:=hZ M;rw[<-M];clear y M;go_wp2_with(refine Ae rfl _ _ _ rfl j.heap.size cs ZN ZN 29 zV (BD _ _ zV _ _ rfl rfl) B.o P.o N.o ?_;intro w2 ar S V;have ab:=hZ S;have E:=UD (Chg j w2 []) (Chg.step (b:=_) (by exact cg cR) V (fun i hi W=>by simp at hi;omega));clear ar S V)
  obtain⟨m,r⟩:=Ue (World.drew w2)
  have an:=hZ r;have H5:Hid (Chg w m []):=by rw[r];exact hZ (H1.o.trans E.o).drew
  have ai:Hid (Ac m w.heap.size zV 29):=by rw[r];exact hZ (G.o.kept E.o).drew
  have am:Hid (Ac m j.heap.size cs 29):=by rw[r];exact hZ ab.o.drew
  have ah:=UD (j.heap.size≠w.heap.size) (by have:=G.o.lt;omega);clear r;refine wp_region_any Yb ?_;change wpAny _ _ _ _ _ _ _ (World.drew _);rw[<-an.o];refine Dg _ (KR m w.heap.size j.heap.size cs 29 2 (aj cs)) Yb ?_ ?_ _ ?_
  .intro ii op a wa dd d g aM q aJ c K k
   match ii,d with
   |0,d=>
    obtain rfl:=Q5 d;have H:a.tmps.getD 5 undef= nP (nM ⟨j.heap.size,0,nN⟩):=g.at 5 Yb;rw[Qr (by simp[Region.wanted])];refine Bd _ _ rfl _ H 29 _ c.src _ underlying29 rfl B.o ?_;exact k _ _ Zh (c.put ZM (by simp[aj]))
   |1,d=>
    obtain rfl:=Q5 d;go_simp
    exact k _ _ Zh (c.put ZM (by simp[aj]))
   |2,d=>
    obtain rfl:=Q5 d;have H:a.tmps.getD 3 undef= nP (nM ⟨w.heap.size,0,nN⟩):=g.at 3 Yb;have hs:a.tmps.getD 16 undef= nA cs.toArray:=c.vals 0 (q ⟨0,.data⟩ Zh rfl);obtain⟨ds,f,aq⟩:=c.old;rw[Qr (by simp[Region.wanted])];refine Gj _ _ _ rfl w.heap.size cs H hs 29 ds f B.o aq N.o ?_;intro w' _ ao ap;exact k undef _ (fun _=>rfl) (c.stored trivial ao ap)
   |3,d=>
    obtain rfl:=Q5 d;go_simp
    exact k _ _ Zh (c.put ZM (by simp[aj]))
   |_+4,d=>exact absurd d Zh
  .intro a wR dd g D c
   have R:=c.dst (D 2 ZM);have z:a.tmps.getD 2 undef= nP nN:=c.vals 1 (D 1 ZM);have C:a.tmps.getD 4 undef= .bool false:=c.vals 3 (D 3 ZM);have ak:=hZ R;have al:=UD (Chg w wR []) (H5.o.fresh c.chg (fun i hi=>by simp at hi;omega));clear c D R;have v:=g.form' [16,2,4] Yb;have U:=g.defers;obtain⟨o,df⟩:=a;clear g
   dsimp only[Act.put]at v U z C
   simp only[List.foldl_cons,List.foldl_nil]at v;obtain⟨u16,av⟩:=Ue (o.getD 16 undef)
   obtain⟨u2,I⟩:=Ue (o.getD 2 undef)
   obtain⟨u4,J⟩:=Ue (o.getD 4 undef)
   rw[<-av,<-I,<-J]at v;rw[<-I]at z;rw[<-J]at C;clear av I J;simp only[List.setIfInBounds_toArray,List.set_cons_zero,List.set_cons_succ]at v;subst v;subst U;subst z;subst C;go_wp2_with fail
   refine bodyPost_ret (E0 rfl _ _ w.heap.size 29 cs _ rfl ak.o underlying29 rfl B.o) rfl ?_;rw[aE.o];exact⟨rfl,al.o⟩
  .exact⟨Chg.refl _ _,am.o,ah.o,⟨zV,ai.o,P.o⟩,(fun e=>by cases e),fun _ e=>by cases e⟩
 |some t=>
  rw[T]at O L;have aF:=UD (Bt t) (af.o t T);clear af T;go_enter func12,ntmps12
  go_wp2_with fail
  refine(O.o _ (by exact cg cR)).mono ?_;rintro e j ⟨⟨F,cs,rfl,X,g,hw⟩,y⟩;have H1:=UD (Chg w j []) (((Chg.refl w []).alloc _).trans y);have G:=UD (Ac j w.heap.size zV 29) ((BD w _ zV _ _ rfl rfl).kept y);have au:=hZ X;have ae:=UD (∀b,F b->w.heap.size<b/\b<j.heap.size) (fun b f=>by have:=g b f;simp at this;omega);have B:=UD ((prog.info? 29).map (·.size)=nM cs.length) (by rw[(E7 X).2];exact A9);have N:=hZ (E7 X).1;have P:=UD (zV.length=cs.length) (by rw[(E7 X).2];rfl);clear y X g hw
  go_wp2_with(first
   |(refine Ae rfl _ _ _ rfl j.heap.size cs ZN ZN 29 zV (BD _ _ zV _ _ rfl rfl) B.o P.o N.o ?_;intro w2 ar S V;have ab:=hZ S;have E:=UD (Chg j w2 []) (Chg.step (b:=_) (by exact cg cR) V (fun i hi W=>by simp at hi;omega));clear ar S V)
   |(go_at_call 28;refine(L.o w2 (H1.o.trans E.o)).mono ?_;rintro e w3 ⟨⟨Z,A,rfl,k1,k2,k3,k4,k5⟩,k6⟩;have K1:=hZ k1;have K2:=hZ k2;have K4:=hZ k4;have K5:=hZ k5;have K6:=hZ k6;clear k1 k2 k3 k4 k5 k6))
  obtain⟨m,r⟩:=Ue (World.drew w3)
  have an:=hZ r;have Q:Chg j m []:=by rw[r];exact(E.o.trans K6.o).drew
  have H5:=UD (Chg w m []) (H1.o.trans Q);have ai:=UD (Ac m w.heap.size zV 29) (G.o.kept Q);have am:Hid (Ac m j.heap.size cs 29):=by rw[r];exact hZ (ab.o.kept K6.o).drew
  have ah:=UD (j.heap.size≠w.heap.size) (by have:=G.o.lt;omega);have aI:=UD (AL m F t cs) (AL.kept (Q.keepsF (fun b f=>(ae.o b f).2)) (fun _ h=>h) _ _ au.o);have aG:Hid (CG m Z A t):=by rw[r];exact hZ (K1.o.kept (Chg.refl w3 []).drew K2.o)
  have ag:=UD (∀b,Z b->w.heap.size<b/\b<m.heap.size) (fun b f=>by have y:=K4.o b f;have z:=K2.o b f;have h3:=E.o.size;have C:=G.o.lt;rw[r];exact⟨Zj,z⟩);have aH:=UD (w.heap.size<A) (by have y:=K5.o;have h3:=E.o.size;have C:=G.o.lt;omega);have ad:=UD (∀b,F b->w.heap.size<b/\b<m.heap.size) (fun b f=>by have y:=ae.o b f;have z:=Q.size;omega);clear r Q K1 K2 K4 K5 K6 au ae;refine wp_region_any Yb ?_;change wpAny _ _ _ _ _ _ _ (World.drew _);rw[<-an.o];refine Dg _ (KR m w.heap.size j.heap.size cs 29 9 (WS A cs)) Yb ?_ ?_ _ ?_
  .intro ii op a wa dd d g aM q aJ c K k
   match ii,d with
   |0,d=>
    obtain rfl:=Q5 d;have h7:a.tmps.getD 7 undef= nP (nM ⟨A,0,nN⟩):=g.at 7 Yb;go_simp
    exact k _ _ Zh (c.put ZM (by simp[WS]))
   |1,d=>
    obtain rfl:=Q5 d;have H:a.tmps.getD 5 undef= nP (nM ⟨j.heap.size,0,nN⟩):=g.at 5 Yb;rw[Qr (by simp[Region.wanted])];refine Bd _ _ rfl _ H 29 _ c.src _ underlying29 rfl B.o ?_;exact k _ _ Zh (c.put ZM (by simp[WS]))
   |2,d=>
    obtain rfl:=Q5 d;have h8:a.tmps.getD 8 undef= .nilIface:=g.at 8 Yb;go_simp
    exact k _ _ Zh (c.put ZM (by simp[WS]))
   |3,d=>
    obtain rfl:=Q5 d;have aP:a.tmps.getD 24 undef= .nilIface:=c.vals 2 (q ⟨2,.data⟩ Zh rfl);go_simp
    exact k _ _ Zh (c.put ZM (by simp[WS]))
   |4,d=>
    obtain rfl:=Q5 d;have aQ:a.tmps.getD 25 undef= .bool true:=c.vals 3 (q ⟨3,.data⟩ Zh rfl);go_simp
    exact k _ _ Zh (c.put ZM (by simp[WS]))
   |5,d=>
    obtain rfl:=Q5 d;have h7:a.tmps.getD 7 undef= nP (nM ⟨A,0,nN⟩):=g.at 7 Yb;rw[Qr (Cw rfl ZN (c.vals 4 (q ⟨4,.guard⟩ Zh rfl)))];go_simp
    exact k _ _ Zh (c.put ZM (by simp[WS]))
   |6,d=>
    obtain rfl:=Q5 d;have aS:a.tmps.getD 27 undef= nP (nM ⟨A,0,nN⟩):=c.vals 5 (q ⟨5,.data⟩ Zh rfl);rw[Qr (Cw rfl ZN (c.vals 4 (q ⟨4,.guard⟩ Zh rfl)))];go_simp
    exact k _ _ Zh (c.put ZM (by simp[WS]))
   |7,d=>
    obtain rfl:=Q5 d;have aR:a.tmps.getD 26 undef= .bool true:=c.vals 4 (q ⟨4,.data⟩ Zh rfl);have aT:a.tmps.getD 28 undef= .bool true:=c.vals 6 (q ⟨6,.data⟩ Zh rfl);go_simp
    exact k _ _ Zh (c.put ZM (by simp[WS]))
   |8,d=>
    obtain rfl:=Q5 d;have aO:a.tmps.getD 22 undef= nP (nM ⟨A,0,nN⟩):=c.vals 0 (q ⟨0,.data⟩ Zh rfl);go_simp
    exact k _ _ Zh (c.put ZM (by simp[WS]))
   |9,d=>
    obtain rfl:=Q5 d;have H:a.tmps.getD 3 undef= nP (nM ⟨w.heap.size,0,nN⟩):=g.at 3 Yb;have hs:a.tmps.getD 23 undef= nA cs.toArray:=c.vals 1 (q ⟨1,.data⟩ Zh rfl);obtain⟨ds,f,aq⟩:=c.old;rw[Qr (by simp[Region.wanted])];refine Gj _ _ _ rfl w.heap.size cs H hs 29 ds f B.o aq N.o ?_;intro w' _ ao ap;exact k undef _ (fun _=>rfl) (c.stored trivial ao ap)
   |10,d=>
    obtain rfl:=Q5 d;have aU:a.tmps.getD 29 undef= .bool true:=c.vals 7 (q ⟨7,.data⟩ Zh rfl);go_simp
    exact k _ _ Zh (c.put ZM (by simp[WS]))
   |_+11,d=>exact absurd d Zh
  .intro a wR dd g D c
   have R:=c.dst (D 9 ZM);have z:a.tmps.getD 2 undef= nP (nM ⟨A,0,nN⟩):=c.vals 8 (D 8 ZM);have C:a.tmps.getD 4 undef= .bool true:=c.vals 10 (D 10 ZM);have ak:=hZ R;have aa:=hZ c.chg;have al:=UD (Chg w wR []) (H5.o.fresh c.chg (fun i hi=>by simp at hi;omega));clear c D R;have v:=g.form' [22,23,24,25,26,27,28,29,2,4] Yb;have U:=g.defers;obtain⟨o,df⟩:=a;clear g
   dsimp only[Act.put]at v U z C
   simp only[List.foldl_cons,List.foldl_nil]at v;obtain⟨u22,aw⟩:=Ue (o.getD 22 undef)
   obtain⟨u23,ax⟩:=Ue (o.getD 23 undef)
   obtain⟨u24,ay⟩:=Ue (o.getD 24 undef)
   obtain⟨u25,az⟩:=Ue (o.getD 25 undef)
   obtain⟨u26,aA⟩:=Ue (o.getD 26 undef)
   obtain⟨u27,aB⟩:=Ue (o.getD 27 undef)
   obtain⟨u28,aC⟩:=Ue (o.getD 28 undef)
   obtain⟨u29,aD⟩:=Ue (o.getD 29 undef)
   obtain⟨u2,I⟩:=Ue (o.getD 2 undef)
   obtain⟨u4,J⟩:=Ue (o.getD 4 undef)
   rw[<-aw,<-ax,<-ay,<-az,<-aA,<-aB,<-aC,<-aD,<-I,<-J]at v;rw[<-I]at z;rw[<-J]at C;clear aw ax ay az aA aB aC aD I J;simp only[List.setIfInBounds_toArray,List.set_cons_zero,List.set_cons_succ]at v;subst v;subst U;subst z;subst C;go_wp2_with fail
   refine bodyPost_ret (E0 rfl _ _ w.heap.size 29 cs _ rfl ak.o underlying29 rfl B.o) rfl ?_;have hz:=aa.o.size;obtain⟨tv,t1,t2,t3⟩:=aG.o;have aK:BZ Z m wR:=aa.o.keepsF (fun b f=>(ag.o b f).2) (fun b f hm=>by simp at f;subst f;have:=(ag.o _ hm).1;omega);refine⟨⟨F,Z,cs,A,rfl,AL.kept (aa.o.keepsF (fun b f=>(ad.o b f).2) (fun b f hm=>by simp at f;subst f;have:=(ad.o _ hm).1;omega)) (fun _ h=>h) _ _ aI.o,fun b f=>by have:=ad.o b f;omega,⟨tv, ?_,Af.kept aK (fun _ h=>h) _ _ t2,Zj⟩,fun b f=>by have:=ag.o b f;omega,aF.o⟩,al.o⟩;rw[aa.o.cell (p:=⟨A,0,nN⟩) t3 (by have:=aH.o;simp;omega)];exact t1
  .exact⟨Chg.refl _ _,am.o,ah.o,⟨zV,ai.o,P.o⟩,(fun e=>by cases e),fun _ e=>by cases e⟩
theorem fT.ext{w0 w:Wl}{os b:List Bq}{i:Nat}{sv:Vl}(h:fT w0 os i sv w)(e:os.take i=b.take i):fT w0 b i sv w:=by
 obtain⟨⟨xs,G,c,a,d,f⟩,g⟩:=h;rw[e]at a;exact⟨⟨xs,G,c,a,d,f⟩,g⟩
theorem my{t:Tr}{F:Nat->Prop}{d:Ti}{f:Vl}{w:Wl}(h:Hm w F t (nF d f))(g:∀l,t≠ .list l)(e:Wl):
  (Instr.typeAssert (nF d f) 144 141 true).run prog e= .ok (nT #[nS nN 0 0,.bool false]) e:=by
 cases t<;>simp only[Hm,AG]at h
 .injection h with a b;subst a;subst b;kernel_rfl
 .injection h with a b;subst a;subst b;kernel_rfl
 .injection h with a b;subst a;subst b;kernel_rfl
 .injection h with a b;subst a;subst b;kernel_rfl
 .exact absurd rfl (g _)
 .obtain⟨i,c,vs,a,_⟩:=h;injection a with a b;subst a;kernel_rfl
theorem mE{t:Tr}{F:Nat->Prop}{c:Ti}{e:Vl}{w:Wl}(h:Hm w F t (nF c e))(f:∀ks l,t≠ .obj ks l)(d:Wl):
  (Instr.typeAssert (nF c e) 144 149 true).run prog d= .ok (nT #[nS nN 0 0,.bool false]) d:=by
 cases t<;>simp only[Hm,AG]at h
 .injection h with a b;subst a;subst b;kernel_rfl
 .injection h with a b;subst a;subst b;kernel_rfl
 .injection h with a b;subst a;subst b;kernel_rfl
 .injection h with a b;subst a;subst b;kernel_rfl
 .obtain⟨g,vs,a,_⟩:=h;injection a with a b;subst a;kernel_rfl
 .exact absurd rfl (f _ _)
def lm(r:ZV)(w:Wl)(e:Ending)(w':Wl):Prop:=match r with
 | .no k q=>e= nR (nT #[nS nN 0 0,eT k q])/\Chg w w' []
 | .yes os=>gE (os.map CW.toI) w e w'
theorem lp(t:Tr)(F:Nat->Prop)(c:Nat)(w:Wl)(h:CG w F c t)(g:∀b,F b->b<w.heap.size)(i:Bt t)(j:∀l,t≠ .list l):
  Cl prog 34 #[nP (nM ⟨c,0,nN⟩)] w (lm (.no 5 Dz) w):=by
 have o:=hZ (M9 t F c w h g (Ar i.fits).1);have n:=hZ j;clear h g i j;go_enter func34,ntmps34
 go_wp2_with(first
  |(go_at_call 68;refine o.o.mono ?_;rintro e s ⟨v,G,rfl,a,d,p⟩;obtain⟨r,u,rfl⟩:=a.iface;have q:=my a n.o;have k:=hZ d;clear a d p)
  |(go_at_call 69;refine(eZ _ _ _).mono ?_;rintro e w2 ⟨rfl,f⟩;have m:=hZ (k.o.trans f);clear f))
 go_ret2
 exact⟨rfl,m.o⟩
theorem lE(l:List Tr)(F:Nat->Prop)(tb:Nat)(w:Wl)(hL:Br w)(aq:dM w)(hT:CG w F tb (.list l))(hF:∀b,F b->b<w.heap.size)(W:Bt (.list l)):
  Cl prog 34 #[nP (nM ⟨tb,0,nN⟩)] w (lm (RV [] 0 l) w):=by
 have HV:=hZ (M9 (.list l) F tb w hT hF (Ar W.fits).1);have av:l.length<=65536:=by have:=W.many;simp only[Ab]at this;omega
 have HL:=hZ hL;have ap:=hZ aq;have aB:=hZ W;have an:=hZ av;have aG:∀(a:Option Addr) (n c:Nat) (w:Wl),(Instr.typeAssert (nF 141 (nS a n c)) 144 141 true).run prog w= .ok (nT #[nS a n c,.bool true]) w:=fun _ _ _ _=>Yb
 clear hL aq hT hF W av;go_enter func34,ntmps34
 go_wp2_with(first
  |(go_at_call 68;refine HV.o.mono ?_;rintro e w1 ⟨v,G,rfl,Z,d,hG⟩;simp only[Hm]at Z;obtain⟨sl,vs,rfl,Y,hk⟩:=Z;have ay:=hk.length;obtain⟨va,vc,rfl,ar⟩:=Y.cell;rw[ay];have s:=hZ d;have HG:=hZ hG;have HK:=hZ hk;have aA:=hZ ar;clear Y ay d hG hk ar))
 obtain⟨n,hn⟩:=Ue l.length
 rw[<-hn]at an|-;have HN:=hZ hn;have ao:=UD (fT w1 [] 0 (nS nN 0 0) w1) (fT.start cR);have aJ:=an.o;clear hn;go_loopw [28,6] (fun am v6 wr=>∃(i:Nat) (q:Option Addr) (ag:Nat),i<=n/\am= nI nX i/\v6= nS q i ag/\∃os:List CW,os.length=i/\fT w1 (os.map CW.toI) i v6 wr/\∀r,RV [] 0 l=r->RV os i (l.drop i)=r) (fun am _ _=>n-(intOf am).toNat)
 case atStart=>exact⟨0,nN,0,Zj,rfl,rfl,[],rfl,ao.o,fun r h=>h⟩
 case round=>
  obtain⟨i,q,ag,hi,rfl,rfl,os,aw,ai,ax⟩:=hrel;have M:=hZ aw;have V:=hZ ax;clear aw ax;have ae:=hZ ai;have p:=hZ ai.chg;clear ai ao;by_cases aI:i<n
  .obtain⟨t,K⟩:∃t,l[i]? =nM t:=⟨_,Q9 (by have:=HN.o;omega)⟩
   have au:l.drop i=t::l.drop (i+1):=by
    obtain⟨d,h2⟩:=Qc.1 K;rw[List.drop_eq_getElem_cons d,h2]
   have ab:=hZ au;clear au;obtain⟨N,B⟩:=Ue (⟨(Go.Lib.decDigits i).toArray⟩:BY)
   have aH:N.size<=11:=by rw[B];exact fX i Zj
   have ad:=UD (∀f,Chg wr f []->Cl prog 70 #[nI nX i] f (fun e w'=>e= nR (nG N)/\Chg f w' [])) fun f x=>by
    have:=Ri (i:Int) Zj Zj f (HL.o.kept ((s.o.trans p.o).trans x));rw[Mc,<-B]at this;exact this
   obtain⟨v',aa,R⟩:=HK.o.get i _ K;obtain⟨b,oo,rfl,_,O⟩:=aA.o i _ aa;by_cases ak:∃ks m,t= .obj ks m
   .obtain⟨ks,m,rfl⟩:=ak
    simp only[Hm]at R;obtain⟨H,D,us,rfl,Q,al,ah⟩:=R;have c0:wr.cell? ⟨b,oo+i,nN⟩=nM (nF 149 (nS H m.length D)):=p.o.keeps O;have P:Bt (.obj ks m):=gd aB.o (Qi K);have X:eR ks m us G H wr:=eR.kept ⟨Q,al,ah,fun y hy=>(HG.o y hy).2,by have:=P.many;simp only[Ab]at this;omega⟩ p.o;have aD:∀(w:Wl),(Instr.typeAssert (nF 149 (nS H m.length D)) 144 149 true).run prog w= .ok (nT #[nS H m.length D,.bool true]) w:=fun _=>Yb
    cases J:Xi ks m (XP i)with
    |no k qq=>
     have af:=UD (∀f,Chg wr f []->Cl prog 71 #[nS H m.length D,nG (⟨#[47]⟩++N)] f (k9 k qq f)) fun f x=>by
      have:=mo (c:=D) (lQ (HL.o.kept ((s.o.trans p.o).trans x)) (ap.o.kept ((s.o.trans p.o).trans x)) (X.kept x) (gu i Zj) (fY (fun u hu=>gd P hu))) (gu i Zj) J;rw[Q]at this;rw[B];exact this
     have C:=UD (RV [] 0 l= .no k qq) (by
      have d:=V.o _ rfl;rw[ab.o,RV,J]at d
      exact d.symm)
     clear K J aa Q al ah O P X B
     go_wp2_with(first
      |(go_at_call 70;refine(ad.o _ cR).mono ?_;rintro e w3 ⟨rfl,A⟩;have z:=hZ A;clear A)
      |(go_at_call 71;refine(af.o _ z.o).mono ?_;rintro e L ⟨E,S⟩;have E:e= nR (nT #[nA #[nI nX 0,nG ⟨#[]⟩,nG ⟨#[]⟩,nS nN 0 0],nF 126 (nA #[nI nX k,nG qq])]):=E;subst E;have I:=hZ (z.o.trans S);clear S))
     go_ret2
     rw[C.o];exact⟨rfl,s.o.trans (p.o.trans (I.o.alloc _))⟩
    |yes o=>
     have C:=UD (∀r,RV [] 0 l=r->RV (os++[o]) (i+1) (l.drop (i+1))=r) (by
      intro r Y;have d:=V.o r Y;rw[ab.o,RV,J]at d
      exact d)
     have af:=UD (∀f,Chg wr f []->Cl prog 71 #[nS H m.length D,nG (⟨#[47]⟩++N)] f (fV o.toI f)) fun f x=>by
      have:=gq ks m us G H D (XP i) o f (HL.o.kept ((s.o.trans p.o).trans x)) (ap.o.kept ((s.o.trans p.o).trans x)) (X.kept x) (gu i Zj) (fun u hu=>gd P hu) J;rw[Q]at this;rw[B];exact this
     clear K J aa Q al ah O P X B
     go_wp2_with(first
      |(go_at_call 70;refine(ad.o _ cR).mono ?_;rintro e w3 ⟨rfl,A⟩;have z:=hZ A;clear A)
      |(go_at_call 71;refine(af.o _ z.o).mono ?_;rintro e L ⟨sv,ys,G1,E,q1,q2,q3,q4,S⟩;obtain⟨T,U,rfl,_⟩:=q1.form;have E:e= nR (nT #[nA #[nI nX o.toI.kind,nG o.toI.path,nG o.toI.frm,nS T o.toI.steps.length U],.nilIface]):=E;subst E;have Q1:=hZ q1;have Q2:=hZ q2;have Q3:=hZ q3;have Q4:=hZ q4;have I:=hZ (z.o.trans S);have az:=UD (wr.heap.size<=w3.heap.size) z.o.size;clear q1 q2 q3 q4 S)
      |(refine Bp rfl _ _ rfl L.heap.size ZN 42 [nI nX o.toI.kind,nG o.toI.path,nG o.toI.frm,nS T o.toI.steps.length U] (by exact BD L _ [nI nX o.toI.kind,nG o.toI.path,nG o.toI.frm,nS T o.toI.steps.length U] _ _ rfl rfl) _ underlying42 rfl A0 ?_)
      |(obtain⟨xs,G2,e1,e2,e3,e4⟩:=ae.o.ex;refine Er rfl _ _ 23 rfl 42 _ 4 64 ZM underlying23 JK rfl (nS q i ag) i xs ZN ((e1.kept I.o).kept (bs:=[]) (((Chg.refl _ _).alloc _).alloc _) Zh) (L.heap.size+1) 0 1 1 (BJ o.toI (nS T o.toI.steps.length U)) ZN Zj ZN (fun j v Z=>by rw[Nat.zero_add];exact((BD _ _ (BJ o.toI (nS T o.toI.steps.length U)) _ _ rfl Zh).cell j).trans Z) (Dx _ _ _ _) Zj Zj ?_;intro g aC w7 k1 k2 k3;have K1:=hZ k1;have K2:=hZ k2;have K3:=hZ k3;have E1:=hZ e1;have E2:=hZ e2;have E3:=hZ e3;have E4:=hZ e4;clear k1 k2 k3 e1 e2 e3 e4))
     go_roundw
     case rel=>
      have aF:=fT.next (os:=(os++[o]).map CW.toI) (o:=o.toI) ae.o.chg E1.o (by rw[List.map_append,List.take_append_of_le_length (by rw[List.length_map,M.o];exact Q8 _)];exact E2.o) E3.o E4.o (by rw[List.map_append,List.getElem?_append_right (by rw[List.length_map,M.o];exact Q8 _),List.length_map,M.o,Nat.sub_self];rfl) I.o (As.kept Q1.o cR) Q2.o Q3.o (fun b hb=>⟨Q7 az.o (Q4.o b hb).1,(Q4.o b hb).2⟩) (((Chg.refl L []).alloc _).alloc _) K1.o K2.o K3.o;exact⟨i+1,_,aC,Zj,by go_num,rfl,os++[o],by rw[Qk,M.o];rfl,aF,C.o⟩
     case measure=>simp[intOf];omega
   .have aj:∀ks m,t≠ .obj ks m:=fun ks m e=>ak ⟨ks,m,e⟩
    obtain⟨ti,xi,rfl⟩:=R.iface;have c0:wr.cell? ⟨b,oo+i,nN⟩=nM (nF ti xi):=p.o.keeps O;have aD:=mE R aj
    have C:=UD (RV [] 0 l= .no 5 (⟨#[47]⟩++N)) (by
     have d:=V.o _ rfl;rw[ab.o]at d;rw[<-d,B]
     cases t<;>first|rfl|exact absurd rfl (aj _ _))
    clear K aa O B R aj ak
    go_wp2_with(first
     |(go_at_call 70;refine(ad.o _ cR).mono ?_;rintro e w3 ⟨rfl,A⟩;have z:=hZ A;clear A)
     |(go_at_call 69;refine(eZ _ _ _).mono ?_;rintro e L ⟨rfl,h4⟩;have I:=hZ (z.o.trans h4);clear h4))
    go_ret2
    rw[C.o];exact⟨rfl,s.o.trans (p.o.trans I.o)⟩
  .obtain rfl:i=n:=by omega
   have C:=UD (RV [] 0 l= .yes os) (by
    have d:=V.o _ rfl;rw[List.drop_eq_nil_of_le (by have:=HN.o;omega),RV]at d
    exact d.symm)
   go_wp2_with fail
   go_ret2
   rw[C.o];obtain⟨xs,G,aE⟩:=fT.done ae.o (by rw[List.length_map,M.o]);exact⟨_,xs,G,rfl,aE.kept cR (fun b h=>absurd h List.not_mem_nil) s.o.size,s.o.trans p.o⟩
theorem mF(t:Tr)(F:Nat->Prop)(a:Nat)(w:Wl)(f:Br w)(g:dM w)(d:CG w F a t)(c:∀b,F b->b<w.heap.size)(e:Bt t):
  Cl prog 34 #[nP (nM ⟨a,0,nN⟩)] w (lm (aM t) w):=by
 cases t with
 |list l=>exact lE l F a w f g d c e
 |_=>exact lp _ F a w d c e (fun l h=>by cases h)
end
section
open Go Go.Shelf Go.RowKit Go.Lib Tree Ptr
structure aq(w:Wl)(sl:Vl)(l:List Ap)(xs:List Vl):Prop where
 row:As w sl 6 l.length xs
 at_:Az w l xs
 small:∀s∈l,Di s
 many:l.length<=4294967296
structure gW(w0:Wl)(l:List Ap)(i:Nat)(sv:Vl)(w:Wl):Prop where
 ex:∃ys G,Ba w sv 72 6 i ys/\Cr w G (l.take i) ys/\(∀b,G b->w0.heap.size<=b/\b<w.heap.size)/\∀g,sv.ownBlock=nM g->w0.heap.size<=g/\¬G g
 chg:Chg w0 w []
theorem gW.next{w0 wr j t c:Wl}{l:List Ap}{i g u:Nat}{s:Ap}{sv sk:Vl}{ys:List Vl}{G k:Nat->Prop}(x:Chg w0 wr [])(C:Ba wr sv 72 6 i ys)(D:Cr wr G (l.take i) ys)(q:∀b,G b->w0.heap.size<=b/\b<wr.heap.size)(o:∀g,sv.ownBlock=nM g->w0.heap.size<=g/\¬G g)(H:l[i]? =nM s)(p:Chg wr j [])(E:As j sk 1 s.keys.length (Ad s.keys))(w:SE k sk)(d:∀b,k b->wr.heap.size<=b/\b<j.heap.size)(m:Chg j t [])(v:Ba c (nS (nM ⟨g,0,nN⟩) (i+1) u) 72 6 (i+1) (ys++AI s sk))(n:Chg t c sv.ownBlock.toList)(F:sv.ownBlock=nM g\/t.heap.size<=g):gW w0 l (i+1) (nS (nM ⟨g,0,nN⟩) (i+1) u) c:=by
 have M:=p.size;have N:=m.size;have O:=n.size;have L:=x.size;have z:∀y,sv.ownBlock=nM y->y<wr.heap.size:=fun y f=>C.lt f
 have K:g<c.heap.size:=v.lt rfl;have I:BZ G wr c:=((p.trans m).none sv.ownBlock.toList|>.trans n).keepsF (fun b a=>(q b a).2) (fun b r a=>(o b (by simpa using r)).2 a);have J:BZ k j c:=((m.none sv.ownBlock.toList).trans n).keepsF (fun b a=>(d b a).2) (fun b r a=>by have A:=z b (by simpa using r);have B:=(d b a).1;omega);refine⟨⟨_,fun b=>G b\/k b,v, ?_,fun b a=> ?_,fun y f=> ?_⟩,((x.trans p).trans m).fresh n (fun y f=>(o y (by simpa using f)).1)⟩
 .rw[Cb H]
  exact(Cr.kept I (fun _ h=> .inl h) D).append ⟨sk,[],Zh,E.keptF w J,w.mono (fun _ h=> .inr h),rfl⟩
 .rcases a with a|a
  .have:=q b a;omega
  .have:=d b a;omega
 .have e:g=y:=by injection f
  subst e
  rcases F with h|h
  .refine⟨(o g h).1,fun a=> ?_⟩
   rcases a with a|a
   .exact(o g h).2 a
   .have A:=z g h;have B:=(d g a).1;omega
  .refine⟨Zj,fun a=> ?_⟩
   rcases a with a|a
   .have:=q g a;omega
   .have:=d g a;omega
theorem gW.done{w0 w:Wl}{l:List Ap}{sv:Vl}{n:Nat}(h:gW w0 l n sv w)(j:n=l.length):∃ys G,As w sv 6 l.length ys/\SE G sv/\Cr w G l ys/\∀b,G b->w0.heap.size<=b/\b<w.heap.size:=by
 obtain⟨xs,G,f,d,g,i⟩:=h.ex;subst j;rw[List.take_length]at d;refine⟨xs,fun b=>G b\/sv.ownBlock=nM b,f.rowC (by rw[Az.length d.toR]),fun b o n c e=> ?_,Cr.kept (fun _ _ _=>rfl) (fun _ h=> .inl h) d,fun b a=> ?_⟩
 .rw[e];exact .inr rfl
 .rcases a with a|a
  .exact g b a
  .exact⟨(i b a).1,f.lt a⟩
theorem gW.start{w0 w:Wl}{l:List Ap}{B c:Nat}(a:Ba w (nS (nM ⟨B,0,nN⟩) 0 c) 72 6 0 [])(f:w0.heap.size<=B)(h:Chg w0 w []):gW w0 l 0 (nS (nM ⟨B,0,nN⟩) 0 c) w:=
 ⟨⟨[],fun _=>False,a,rfl,fun b (d:False)=>d.elim,fun g e=>⟨by simp[Vl.ownBlock]at e;omega,id⟩⟩,h⟩
end
section
open _root_.Go.Proofs.Tryz
open Go Go.Shelf Go.RowKit Go.Lib Tree Ptr
def mg(t:Tr)(w:Wl)(e:Ending)(w':Wl):Prop:=∃sv ys G,e= nR sv/\As w' sv 6 (MW t).length ys/\SE G sv/\Cr w' G (MW t) ys/\(∀b,G b->w.heap.size<=b/\b<w'.heap.size)/\Chg w w' []
theorem lZ(t:Tr)(F:Nat->Prop)(cs:List Vl)(w:Wl)(S:(Ag t).nodes<=65536)(Q:∀s∈Ai t,s.keys.length<=2147483648)(r:AL w F t cs)(C:∀b,F b->b<w.heap.size):
  Cl prog 46 #[nA cs.toArray] w (mg t w):=by
 obtain⟨w0,H⟩:=Ue (w.alloc (nC cs.toArray 29))
 have HW:=hZ H;have x:Hid (Chg w w0 []):=by rw[H];exact hZ ((Chg.refl w []).alloc _)
 have ax:Hid (Ac w0 w.heap.size cs 29):=by rw[H];exact hZ (Ac.new w cs _)
 have aE:=UD ((prog.info? 29).map (·.size)=nM cs.length) (by rw[r.length];exact A9);have av:AL w0 F t cs:=AL.kept (x.o.keepsF C) (fun _ h=>h) _ _ r;have I:=hZ (ZQ _ t F cs w0 (Q8 _) Zj av (fun b d=>Q6 (C b d) x.o.size));have aG:=hZ Q;have R:=BL t;obtain⟨N,O⟩:=Ue ((Ag t).nodes)
 have aK:=hZ O;have aU:=Cv t;unfold SH at I;rw[<-O]at S R aU I;have aJ:=hZ R;have aA:=UD (∀b,F b->b<w0.heap.size) fun b d=>Q6 (C b d) x.o.size
 clear H r C av Q O R;go_enter func46,ntmps46
 go_wp2_with(refine Bp rfl _ _ rfl w.heap.size ZN 29 cs (by exact HW.o▸ax.o) _ underlying29 rfl aE.o ?_)
 rw[<-HW.o];refine I.o.mono ?_;rintro e w1 ⟨g1,aX,xs,rfl,ak,an,p,aQ⟩;have aH:=hZ ak;have aM:=hZ an;have X:=hZ (x.o.trans p);have aB:=UD (∀b,F b->b<w1.heap.size) fun b d=>Q6 (aA.o b d) p.size
 clear ak an p aQ;go_wp2_with fail
 go_loopw [4,5] (fun v4 W wr=>∃(i:Nat) (q:Option Addr) (f:Nat),i<=N/\W= nI nX i/\v4= nS q i f/\gW w1 (MW t) i v4 wr) (fun _ W _=>N-(intOf W).toNat)
 case atStart=>exact⟨0,nN,0,Zj,rfl,rfl,⟨[],fun _=>False,Ba.nil _ _ _,rfl,fun b (d:False)=>d.elim,(fun g P=>by cases P)⟩,Chg.refl _ _⟩
 case round=>
  obtain⟨i,q,f,hi,rfl,rfl,D⟩:=hrel;have az:=hZ D;obtain⟨ys,aV,hL,hS,ah,hO⟩:=D.ex;have hG:=D.chg;have B:=hZ hL;have HS:=hZ hS;have aC:=hZ ah;have HO:=hZ hO;have A:=hZ hG;clear hL hS ah hO hG D;by_cases aT:i<N
  .obtain⟨s,E⟩:∃s,(Ai t)[i]? =nM s:=⟨_,Q9 (by rw[aJ.o];exact aT)⟩
   obtain⟨sk,T,V⟩:=aM.o.get i s E;have Q:=aG.o s (Qi E);have ae:=UD (∀a,Chg wr a []->Ax a F sk (Ad s.keys)) fun a u=>T.kept ((A.o.trans u).keepsF aB.o) (fun _ h=>h)
   obtain⟨k,l,rfl,_⟩:=T.cell;rw[Ao]at ae V
   have au:wr.rangeAt g1 (i*6) (Ci s (nS k s.keys.length l)):=fun j v r=>by
    have p:=aH.o.cell rfl (6*i+j) v (V j v r);rw[show i*6+j=6*i+j from by omega];exact A.o.keeps p
   have ad:=hZ au;have ar:=IF s (nS k s.keys.length l) k s.keys.length l rfl;have ab:=hZ ar;have aO:=UD ((MW t)[i]? =nM s.toI) (by show((Ai t).map Aw.toI)[i]? =_;rw[List.getElem?_map,E];rfl);have aL:=UD (wr.heap.size∉(Vl.slice q i f).ownBlock.toList) fun hm=>by have:=B.o.lt (by simpa using hm);omega
   have aW:=UD (∀g,(Vl.slice q i f).ownBlock=nM g->g<wr.heap.size) fun g P=>B.o.lt P
   have aq:s.keys.length*16<=140737488355328:=Zj
   have aS:s.keys.length<=140737488355328:=Zj
   have ap:(i+1)*72<=140737488355328/\i<=140737488355328:=⟨Zj,Zj⟩;have Z:=hZ ap;have aF:=hZ aq;clear E T V au ar ap aq;unfold Ci at ad ab
   go_wp2_with(first
    |(refine wpList_load_mid rfl _ _ rfl g1 (i*6) (by go_num) _ _ ad.o underlying158 rfl ZN ?_)
    |(refine Ae rfl _ _ _ rfl wr.heap.size [nI nX s.sort,.bool s.flag,nI .u64 s.bits,nG s.text,nI nX s.count,nS k s.keys.length l] ZN ZN 158 _ (BD _ _ [nI nX 0,.bool false,nI .u64 0,nG ⟨#[]⟩,nI nX 0,nS nN 0 0] _ _ rfl rfl) ZN rfl ab.o ?_;intro w2 aw M ao;have ay:=hZ M;have y:=UD (Chg wr w2 []) (Chg.step (b:=_) (by exact cg cR) ao (fun i hi hl=>by simp at hi;omega));have hz:wr.heap.size<w2.heap.size:=M.lt;clear aw M ao))
   have J:=UD (∀a bs,Chg w2 a bs->wr.heap.size∉bs->a.cell? ⟨wr.heap.size,0,nN⟩=nM (nI nX s.sort)/\a.cell? ⟨wr.heap.size,1,nN⟩=nM (.bool s.flag)/\a.cell? ⟨wr.heap.size,2,nN⟩=nM (nI .u64 s.bits)/\a.cell? ⟨wr.heap.size,3,nN⟩=nM (nG s.text)/\a.cell? ⟨wr.heap.size,4,nN⟩=nM (nI nX s.count)/\a.cell? ⟨wr.heap.size,5,nN⟩=nM (nS k s.keys.length l)) fun a bs u S=>by
    obtain⟨_,_,x0,x1,x2,x3,x4,x5⟩:=(ay.o.kept u S).cells6;exact⟨x0,x1,x2,x3,x4,x5⟩
   have aN:=UD (∀a,Chg w2 a []->Ax a F (nS k s.keys.length l) (Ad s.keys)) fun a u=>ae.o a (y.o.trans u)
   have U:=Ao s.keys
   go_region_held3(fun w'=>w'.cell? ⟨wr.heap.size,0,nN⟩=nM (nI nX s.sort)/\w'.cell? ⟨wr.heap.size,1,nN⟩=nM (.bool s.flag)/\w'.cell? ⟨wr.heap.size,2,nN⟩=nM (nI .u64 s.bits)/\w'.cell? ⟨wr.heap.size,3,nN⟩=nM (nG s.text)/\w'.cell? ⟨wr.heap.size,4,nN⟩=nM (nI nX s.count)/\w'.cell? ⟨wr.heap.size,5,nN⟩=nM (nS k s.keys.length l))
    (first|exact(fun(L:Chg w2 m []) (h4:Chg m w4 (Vl.slice q i f).ownBlock.toList)=>J.o _ _ (Chg.trans (b:=_) (L.none _) h4) aL.o) z.o Y.o|exact(fun(L:Chg w2 m [])=>J.o _ [] (by exact cg L) Zh) z.o|exact J.o _ [] (by exact cg cR) Zh)
    (first
     |(refine cI rfl _ _ _ rfl 9 Ho 16 underlying27 Cf rfl w2.heap.size ZN (by first|exact AK.lit _ [] _ 0 rfl ZM|exact(AK.lit _ [] _ 0 rfl ZM).kept (bs:=[]) (by exact cg cR) Zh) F (nS k s.keys.length l) (Ad s.keys) ZN (by exact aN.o _ (by exact cg cR)) (Gu _) (by rw[U];exact aF.o) (by rw[U];exact aS) ?_;rw[U];intro K aP m al af ai;have aa:=hZ al;have z:=UD (Chg w2 m []) (Chg.step (b:=_) (by exact cg cR) af (fun i hi hl=>by simp at hi;omega));have aR:w2.heap.size<=K:=(by rcases ai with h|h;(exact Nat.le_of_eq h);(simp at h;omega));clear al af ai)
     |(refine Bw rfl _ _ _ rfl 72 Iq 6 72 ZM underlying22 DM rfl (nS q i f) i ys ZN (by exact B.o.kept (bs:=[]) (by exact cg (y.o.trans z.o)) Zh) m.heap.size (Ci s (nS (nM ⟨K,0,nN⟩) s.keys.length aP)) ZN ZN (by exact Ff _ _ _) (IF _ _ _ _ _ rfl) Z.o.1 Z.o.2 ?_;intro g4 aY w4 am ag aj;have aI:=hZ am;have Y:=UD (Chg m w4 (Vl.slice q i f).ownBlock.toList) (ct ((Chg.refl m []).none _) ag);have aD:=UD ((Vl.slice q i f).ownBlock=nM g4\/m.heap.size<=g4) (aj.imp id (fun h=>by rw[h];simp));clear am ag aj))
   all_goals
    go_wp2_with fail
    go_roundw
    case rel=>
     have aZ:=aR;have aw:=y.o.size;exact⟨i+1,_,_,Zj,by go_num,rfl,gW.next A.o B.o HS.o aC.o HO.o aO.o (y.o.trans z.o) (by have:=aa.o.rowC;rwa[Ao]at this) (show SE (fun b=>b=K) _ from fun b o n c e=>by injection e with e _ _;injection e with e;injection e with e _ _;exact e.symm) (fun b d=>⟨by subst d;omega,by subst d;exact aa.o.lt rfl⟩) cR aI.o Y.o aD.o⟩
    case measure=>simp[intOf];omega
  .obtain rfl:i=N:=by omega
   go_wp2_with fail
   go_ret
   obtain⟨zs,G,d1,d2,d3,d4⟩:=az.o.done (by rw[Ju];exact aK.o);exact⟨_,zs,G,rfl,d1,d2,d3,fun b d=>⟨by have:=(d4 b d).1;have:=X.o.size;omega,(d4 b d).2⟩,X.o.trans A.o⟩
end
end Go.Proofs.YtkfnkppdhcaeoaaGreatDoor

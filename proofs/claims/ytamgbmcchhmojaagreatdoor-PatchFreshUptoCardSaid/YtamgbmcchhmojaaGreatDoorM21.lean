/- Part 21 of the proof of patchFresh_card. -/
import Derived.Test.YtamgbmcchhmojaaGreatDoorM20
set_option maxRecDepth 100000
set_option maxHeartbeats 32000000
set_option linter.all false
namespace Go.Proofs.YtamgbmcchhmojaaGreatDoor
open Go renaming Calls->Cl,Value->Vl,World->Wl
open Go.Value renaming agg->nA,iface->nF,int->nI,pointer->nP,slice->nS,string->nG,tuple->nT
open Go.IntKind renaming i64->nX
open Go.Ending renaming returned->nR
open Go.Obj renaming cells->nC
open Option renaming none->nN,some->nM
section
open _root_.Go.Proofs.Tryz
open Go Go.Shelf Go.RowKit Go.Lib Tree Ptr
variable{s:BY}{o:Bq}{l:List Tr}{F:Nat->Prop}{p:Prop}{t:Tr}{w w':Wl}
def Hk(k i:Int):Vl:= nF 84 (nA #[nI nX k,nI nX i])
def V8(r:Zi)(w:Wl)(e:Ending)(w':Wl):Prop:=match r with
 | .no k i=>e= nR (nT #[nP nN,Hk k i])/\Chg w w' []
 | .yes a _=>F9 a w e w'
structure Yc(w:Wl)(F:Nat->Prop)(tb:Nat)(t:Tr)(ops:List Bq)(so:Vl)(xs:List Vl):Prop where
 laid:Br w
 big:10<=w.heap.size
 tree:CG w F tb t
 lt:∀b,F b->b<w.heap.size
 fine:Bt t
 row:As w so 4 ops.length xs
 at_:Cc w ops xs
 small:∀o∈ops,T7 o
 many:ops.length<=65536
theorem CG.kept{c:Nat}(h:CG w F c t)(a:Chg w w' [])(g:∀b,F b->b<w.heap.size):CG w' F c t:=by
 obtain⟨v,d,e,f⟩:=h;exact⟨v,a.keeps d,Af.kept (a.keepsF g) (fun _ h=>h) _ _ e,Q6 f a.size⟩
theorem Yc.kept{e:Nat}{c:List Bq}{d:Vl}{xs:List Vl}(h:Yc w F e t c d xs)(a:Chg w w' []):Yc w' F e t c d xs:=
 ⟨h.laid.kept a,Q7 h.big a.size,h.tree.kept a h.lt,fun b f=>Q6 (h.lt b f) a.size,h.fine,h.row.kept a,Cc.kept a h.at_,h.small,h.many⟩
theorem IB(F:Nat->Prop)(o:Nat)(t:Tr)(c:List Bq)(n:Vl)(xs:List Vl)(w:Wl)(h:Yc w F o t c n xs):
  Cl prog 7 #[nP (nM ⟨o,0,nN⟩),n] w (V8 (BR t [] 0 c) w):=by
 have a:=Xs t F o c n xs w h.laid h.big h.tree h.lt h.fine h.row h.at_ h.small h.many;have r:Fb t c w=fun e w'=>Fb t c w e w':=rfl;unfold Fb at a;obtain⟨O,P,rfl,_⟩:=h.row.form;obtain⟨N,m⟩:=Ue c.length;rw[<-m]at a|-;cases j:BR t [] 0 c with
 |no k i=>
  rw[j]at a;have l:=hZ a;clear a j h m r;go_enter func7,ntmps7;go_wp2_with((go_at_call 23;refine l.o.mono ?_;rintro e K ⟨rfl,f⟩;have d:=hZ f;clear f));go_ret2;exact⟨rfl,d.o⟩
 |yes Q u=>
  rw[j]at a;have l:=hZ a;clear a j h m r;go_enter func7,ntmps7
  go_wp2_with(first
   |(go_at_call 23;refine l.o.mono ?_;rintro e K ⟨⟨W,L,v,S,bs,vs,G,rfl,g,I⟩,f⟩;have d:=hZ f;have p:=hZ g;obtain⟨R,T,rfl⟩:=g.wat.at_.iface;have E:=g.wat.blk.cell 0;simp only[Qa]at E;have M:=g.wat.blk.lt;clear f g I)
   |(go_at_call 24;refine(ZC p.o.wat.fine p.o.wat.at_).mono ?_;rintro e w2 ⟨A,J,rfl,s,x,y,z⟩;have B:=hZ s;have C:=hZ x;have D:=hZ y;have q:=hZ z;clear s x y z))
  go_ret2;exact⟨A,J,rfl,B.o,C.o,d.o.trans D.o,fun b H=>Q7 d.o.size (q.o.1 b H),Q7 d.o.size q.o.2⟩
theorem cN(b:Nat)(a:Option Addr)(n c:Nat)(w:Wl)(d:65536<n)(f:n<=4294967296):
  Cl prog 23 #[nP (nM ⟨b,0,nN⟩),nS a n c] w fun e w'=>e= nR (nT #[nP nN,nF 70 (nI nX 3)])/\Chg w w' []:=by
 have h:((65536:Int)<(n:Int)):=Zj;go_enter func23,ntmps23;go_wp2_with fail;go_ret2;exact⟨rfl,Chg.refl _ _⟩
theorem dq(d:Nat)(a:Option Addr)(n c:Nat)(w:Wl)(h:65536<n)(i:n<=4294967296):
  Cl prog 7 #[nP (nM ⟨d,0,nN⟩),nS a n c] w fun e w'=>e= nR (nT #[nP nN,nF 70 (nI nX 3)])/\Chg w w' []:=by
 have g:=hZ (cN d a n c w h i);go_enter func7,ntmps7;go_wp2_with((go_at_call 23;refine g.o.mono ?_;rintro e j ⟨rfl,b⟩;have f:=hZ b;clear b));go_ret2;exact⟨rfl,f.o⟩
theorem gn{ks:List BY}{p:BY}{o:CW}(h:Xi ks l p= .yes o):
  ∃s,E4 ks l p SB= .yes s/\Ob s≠0/\o.kind=Ob s/\RL ks l p Fj= .yes o.path/\(AO (Ob s)=true->RL ks l p Oa= .yes o.frm)/\(AO (Ob s)=false->o.frm=Dz)/\
   (AN (Ob s)=true->C4 ks SZ=true/\o.steps=Ai (l.getD (A5 ks SZ) .null))/\(AN (Ob s)=false->o.steps=[]):=by
 unfold Xi at h;cases f:E4 ks l p SB with
 |no e q=>rw[f]at h;cases h
 |yes s=>
  rw[f]at h;simp only at h;split at h
  .cases h
  .rename_i j;refine⟨s,rfl,j, ?_⟩;cases g:RL ks l p Fj with
   |no e q=>rw[g]at h;cases h
   |yes path=>
    rw[g]at h;simp only at h;cases a:(if AO (Ob s)=true then RL ks l p Oa else .yes Dz)with
    |no e q=>rw[a]at h;cases h
    |yes frm=>
     rw[a]at h;simp only at h
     have b:(AO (Ob s)=true->RL ks l p Oa= .yes frm)/\(AO (Ob s)=false->frm=Dz):=by
      constructor
      .intro d;rw[Qr d]at a;exact a
      .intro d;rw[Qs (by rw[d];simp)]at a;injection a with a;exact a.symm
     split at h
     .rename_i c;split at h
      .rename_i i;injection h with h
       subst h;exact⟨rfl,rfl,b.1,b.2,fun _=>⟨i,rfl⟩,fun e=>by rw[e]at c;cases c⟩
      .cases h
     .rename_i c;injection h with h
      subst h;exact⟨rfl,rfl,b.1,b.2,fun e=>absurd e c,fun _=>rfl⟩
theorem fY(h:∀u∈l,Bt u):∀s,.text s∈l->s.size<=16777216:=fun s a=>by
 have:=(Ar (h _ a).fits).2.1;simp only[Ag]at this;omega
def fV(o:Bq)(w:Wl)(e:Ending)(w':Wl):Prop:=
 ∃sv ys G,e= nR (nT #[nA (BJ o sv).toArray,.nilIface])/\Ba w' sv 55 6 o.steps.length ys/\SE G sv/\Cr w' G o.steps ys/\(∀b,G b->w.heap.size<=b/\b<w'.heap.size)/\Chg w w' []
def gj:List Vl:=[nI nX 0,nG ⟨#[]⟩,nG ⟨#[]⟩,nS nN 0 0]
theorem fU{w2 d f:Wl}{o:CW}(h:Chg w d [])(j:Chg d f [w2.heap.size,w.heap.size])(k:w.heap.size<=w2.heap.size)(a:o.steps=[]):
  fV o.toI w (nR (nT #[nA (BJ o.toI (nS nN 0 0)).toArray,.nilIface])) f:=
 ⟨nS nN 0 0,[],fun _=>False,rfl,by unfold CW.toI;rw[a];exact Ba.nil _ _ _,(fun b o n c e=>by cases e),by unfold CW.toI;rw[a];exact rfl,(fun b (g:False)=>g.elim),h.fresh j (fun i hi=>by simp at hi;omega)⟩
theorem z1g(h:p:=by refine bodyPost_ret (Gn rfl _ _ w.heap.size 44 _ _ rfl R.o underlying44 rfl A0) rfl ?_;exact fU (w2:=w2) (j.o.trans x.o) S.o j.o.size rfl):p:=h
theorem z1m(h:p:=by exact cg cR):p:=h
theorem gi(ks:List BY)(l:List Tr)(vs:List Vl)(F:Nat->Prop)(v:Option Addr)(c:Nat)(p:BY)(o:CW)(w:Wl)(Y:Br w)(af:dM w)(h:eR ks l vs F v w)(O:p.size<=1000)(hs:∀s,.text s∈l->s.size<=16777216)(ho:Xi ks l p= .yes o)(G:AN o.kind=false):
  Cl prog 36 #[nS v ks.length c,nG p] w (fV o.toI w):=by
 obtain⟨s,i,f,d,g,m,M,h7,N⟩:=gn ho;rw[d]at G;have ag:=gg s;have hq:=fP s;obtain⟨k,hk⟩:=Ue (Ob s);rw[<-hk]at f d m M N G ag hq;have eo:o=⟨k,o.path,o.frm,[]⟩:=by cases o;simp only at d N|-;rw[d,N G]
 obtain⟨path,aa⟩:=Ue o.path;obtain⟨frm,Z⟩:=Ue o.frm;rw[<-aa,<-Z]at eo;rw[<-aa]at g;rw[<-Z]at m M;subst eo;clear aa Z d N ho;have am:IntKind.i64.wrap (1+eN fG s)=(k:Int):=by rw[hq];exact IntWalk.i64_in _ ⟨Zj,Zj⟩
 obtain⟨q,ab⟩:=Ue (eN fG s);rw[<-ab]at am;have T:=UD (∀a,Chg w a []->Cl prog 56 #[nS v ks.length c,nG p,nG SB] a (eW (.yes s) a)) fun a r=>by rw[<-i];exact fi ks l vs F v c p SB a (h.kept r) O ZM
 have U:=UD (∀a,Chg w a []->Cl prog 58 #[nS v ks.length c,nG p,nG Fj] a (eW (.yes path) a)) fun a r=>by rw[<-g];exact fS ks l vs F v c p Fj a (Y.kept r) (h.kept r) O ZM hs
 have J:=UD (AO k=true->∀a,Chg w a []->Cl prog 58 #[nS v ks.length c,nG p,nG Oa] a (eW (.yes frm) a)) fun u a r=>by rw[<-m u];exact fS ks l vs F v c p Oa a (Y.kept r) (h.kept r) O ZM hs
 have HI:=UD (∀X a,Chg w a []->Cl prog 57 #[nS (nM ⟨0,0,nN⟩) 6 X,nG s] a fun e w'=>e= nR (nI nX q)/\Chg a w' []) fun X a r=>by rw[ab];exact fR s fG _ 0 X a ZM (fQ (af.kept r))
 have L:=UD (∀a,Cl prog 48 #[nI nX k] a fun e w'=>e= nR (nT #[.bool (AO k),.bool false,.bool true])/\Chg a w' []) fun a=>by
  have:=Jm k a;rw[G,show CP k=true by unfold CP;simp;omega]at this;exact this
 obtain⟨n,hn⟩:=Ue ks.length;rw[<-hn]at T U J|-;have Q:=hZ M;clear h Y af hs i f g m M h7 hq ab G ag hn O hk;cases u:AO k with
 |false=>
  rw[u]at L;have al:=Q.o u;subst al;clear J Q u;go_enter func36,ntmps36
  go_wp2_with(first
   |(go_at_call 56;refine(T.o _ z1m).mono ?_;rintro e H ⟨i,rfl⟩;have z:=UD (Chg w H []) (ct cR i);have V:=UD (Ac H w.heap.size gj 44) ((Ac.new w _ _).kept i);clear i)
   |(go_at_call 57;refine(HI.o _ _ z.o).mono ?_;rintro e w2 ⟨rfl,f⟩;have ah:=hZ f;have j:=hZ (z.o.trans f);have B:=hZ (V.o.kept f);have K:=UD (w.heap.size≠w2.heap.size) (by have:=B.o.lt;omega);clear f)
   |(go_at_call 48;refine(L.o _).mono ?_;rintro e I ⟨rfl,d⟩;have A:=UD (Chg w2 I []) (ct cR d);have W:=UD (Ac I w2.heap.size [nI nX k,nG ⟨#[]⟩,nG ⟨#[]⟩,nS nN 0 0] 44) ((Ac.new w2 _ _).kept d);clear d)
   |(go_at_call 58;refine(U.o _ (j.o.trans A.o)).mono ?_;rintro e y ⟨g,rfl⟩;have x:=hZ (A.o.trans g);have C:=hZ (W.o.kept g);obtain⟨x1,x2,x3,x4,x5,x6⟩:=Ac.cells4 C.o;clear g)
   |(refine Bp rfl _ _ rfl w2.heap.size ZN 44 (BJ (CW.toI ⟨k,path,Dz,[]⟩) (nS nN 0 0)) (by exact(C.o.set 1 (nG path))) _ underlying44 rfl A0 ?_)
   |(refine Ae rfl _ _ _ rfl w.heap.size (BJ (CW.toI ⟨k,path,Dz,[]⟩) (nS nN 0 0)) ZN ZN 44 gj (by exact(B.o.kept x.o).set_other _ _ K.o.symm) A0 rfl (Dx _ _ _ _) ?_;intro w6 ad D E;have R:=hZ D;have S:=UD (Chg y w6 [w2.heap.size,w.heap.size]) (Chg.trans (b:=_) ((Chg.refl y _).setCell _ _ Zh) (E.mono fun _ _ t=>by simp at t;simp[t]));clear ad D E))
  exact z1g
 |true=>
  rw[u]at L;have aj:=hZ (J.o u);clear J Q u;go_enter func36,ntmps36
  go_wp2_with(first
   |(go_at_call 58;have an:=x.o;refine(aj.o _ ((j.o.trans x.o).setCell _ _ (by have:=j.o.size;simp;omega))).mono ?_;rintro e P ⟨m,rfl⟩;have ae:=UD (Ac P w2.heap.size [nI nX k,nG path,nG ⟨#[]⟩,nS nN 0 0] 44) ((C.o.set 1 (nG path)).kept m);have ai:=UD (Chg y P [w2.heap.size]) (Chg.trans (b:=_) ((Chg.refl y _).setCell _ _ Zh) (m.none _));have ak:=UD (Ac P w.heap.size gj 44) (((B.o.kept x.o).set_other _ _ K.o.symm).kept m);clear x1 x2 x3 x4 x5 x6;obtain⟨x1,x2,x3,x4,x5,x6⟩:=Ac.cells4 ae.o;clear m)
   |(go_at_call 56;refine(T.o _ z1m).mono ?_;rintro e H ⟨i,rfl⟩;have z:=UD (Chg w H []) (ct cR i);have V:=UD (Ac H w.heap.size gj 44) ((Ac.new w _ _).kept i);clear i)
   |(go_at_call 57;refine(HI.o _ _ z.o).mono ?_;rintro e w2 ⟨rfl,f⟩;have ah:=hZ f;have j:=hZ (z.o.trans f);have B:=hZ (V.o.kept f);have K:=UD (w.heap.size≠w2.heap.size) (by have:=B.o.lt;omega);clear f)
   |(go_at_call 48;refine(L.o _).mono ?_;rintro e I ⟨rfl,d⟩;have A:=UD (Chg w2 I []) (ct cR d);have W:=UD (Ac I w2.heap.size [nI nX k,nG ⟨#[]⟩,nG ⟨#[]⟩,nS nN 0 0] 44) ((Ac.new w2 _ _).kept d);clear d)
   |(go_at_call 58;refine(U.o _ (j.o.trans A.o)).mono ?_;rintro e y ⟨g,rfl⟩;have x:=hZ (A.o.trans g);have C:=hZ (W.o.kept g);obtain⟨x1,x2,x3,x4,x5,x6⟩:=Ac.cells4 C.o;clear g)
   |(refine Bp rfl _ _ rfl w2.heap.size ZN 44 (BJ (CW.toI ⟨k,path,frm,[]⟩) (nS nN 0 0)) (by exact(ae.o.set 2 (nG frm))) _ underlying44 rfl A0 ?_)
   |(refine Ae rfl _ _ _ rfl w.heap.size (BJ (CW.toI ⟨k,path,frm,[]⟩) (nS nN 0 0)) ZN ZN 44 gj (by exact ak.o.set_other _ _ K.o.symm) A0 rfl (Dx _ _ _ _) ?_;intro w6 ad D E;have R:=hZ D;have S:=UD (Chg y w6 [w2.heap.size,w.heap.size]) (Chg.trans (b:=_) (ai.o.mono (fun _ _ t=>by simp at t;simp[t])) (Chg.trans (b:=_) ((Chg.refl P _).setCell _ _ Zh) (E.mono fun _ _ t=>by simp at t;simp[t])));clear ad D E))
  exact z1g
theorem gp(ks:List BY)(l:List Tr)(vs:List Vl)(F:Nat->Prop)(la:Option Addr)(c:Nat)(p:BY)(o:CW)(w:Wl)(hL:Br w)(aq:dM w)(h:eR ks l vs F la w)(hp:p.size<=1000)(Y:∀u∈l,Bt u)(ho:Xi ks l p= .yes o)(E:AN o.kind=true):
  Cl prog 36 #[nS la ks.length c,nG p] w (fV o.toI w):=by
 obtain⟨s,t,r,m,z,C,H,h7,h8⟩:=gn ho;rw[m]at E;have P:=Nd E;obtain⟨Z,O⟩:=h7 E;have ad:=H P;have hs:=fY Y;have av:=gg s;have A:=fP s;obtain⟨b,oa,ti,xi,rfl,aa,c1,af⟩:=h.at_ Z;have au:eN ks SZ=(A5 ks SZ:Int):=by unfold eN;rw[Qr Z]
 have ag:l.getD (A5 ks SZ) .null∈l:=by
  rw[List.getD_eq_getElem?_getD,Q9 (by rw[<-h.len];exact aa),Option.getD_some];exact List.getElem_mem _
 obtain⟨x,j⟩:=Ue (l.getD (A5 ks SZ) .null);rw[<-j]at af ag O;have N:=Y x ag;obtain⟨k,hk⟩:=Ue (Ob s);rw[<-hk]at r m E P av A;have eo:o=⟨k,o.path,Dz,Ai x⟩:=by cases o;simp only at m O ad|-;rw[m,O,ad]
 obtain⟨path,aw⟩:=Ue o.path;rw[<-aw]at eo z;subst eo;have aM:IntKind.i64.wrap (1+eN fG s)=(k:Int):=by rw[A];exact IntWalk.i64_in _ ⟨Zj,Zj⟩
 obtain⟨q,ae⟩:=Ue (eN fG s);rw[<-ae]at aM;have HM:=UD (∀a,Chg w a []->Cl prog 56 #[nS (nM ⟨b,oa,nN⟩) ks.length c,nG p,nG SB] a (eW (.yes s) a)) fun a j=>by rw[<-t];exact fi ks l vs F _ c p SB a (h.kept j) hp ZM
 have HP:=UD (∀a,Chg w a []->Cl prog 58 #[nS (nM ⟨b,oa,nN⟩) ks.length c,nG p,nG Fj] a (eW (.yes path) a)) fun a j=>by rw[<-z];exact fS ks l vs F _ c p Fj a (hL.kept j) (h.kept j) hp ZM hs
 have HI:=UD (∀U a,Chg w a []->Cl prog 57 #[nS (nM ⟨0,0,nN⟩) 6 U,nG s] a fun e w'=>e= nR (nI nX q)/\Chg a w' []) fun U a j=>by rw[ae];exact fR s fG _ 0 U a ZM (fQ (aq.kept j))
 have HU:=UD (∀a,Cl prog 48 #[nI nX k] a fun e w'=>e= nR (nT #[.bool false,.bool true,.bool true])/\Chg a w' []) fun a=>by
  have:=Jm k a;rw[E,P,show CP k=true by unfold CP;simp;omega]at this;exact this
 have S:=UD (∀a,Chg w a []->Cl prog 59 #[nS (nM ⟨b,oa,nN⟩) ks.length c,.func (.func 60) #[] #[]] a fun e w'=>e= nR (nI nX (A5 ks SZ:Int))/\Chg a w' []) fun a j=>by
  rw[<-au];exact eV 60 #[] SZ ks vs F _ c a (by rw[h.len,h.kids.length]) (by have:=h.many;omega) (h.kept j).row h.boxed (fun _ _=>Yb) fun wy k ti xi d=>eQ k ti xi wy
 have aD:=UD (∀a,Chg w a []->Cl prog 42 #[nF ti xi] a (SF x a)) fun a hw=>ab _ x F _ a (Q8 _) (Ar N.fits).1 (Hm.kept (hw.keepsF h.lt) (fun _ h=>h) _ _ af) (fun y d=>Q6 (h.lt y d) hw.size);have aI:=UD (∀a v bs,AP a x v bs->∃f args,(callMethod v EB #[nS nN 0 0]).run prog a= .ok (.enter f args) a/\Cl prog f args a fun e w'=>∃sv,e= nR sv/\LN x a sv w') fun a v bs h=>Le N.good N.fits h;obtain⟨n,hn⟩:=Ue ks.length;obtain⟨pl,ax⟩:=Ue (A5 ks SZ);rw[<-hn]at HM HP S aa|-;rw[<-ax]at S aa c1;have az:=hZ c1;clear h hL aq hs t r m z C H h7 h8 A ae E P av hn hp hk ho Z O ad c1 af au ag j N ax aw Y;go_enter func36,ntmps36
 go_wp2_with(first
  |(go_at_call 56;refine(HM.o _ z1m).mono ?_;rintro e w1 ⟨t,rfl⟩;have H1:=UD (Chg w w1 []) (ct cR t);have aE:=UD (Ac w1 w.heap.size gj 44) ((Ac.new w _ _).kept t);clear t)
  |(go_at_call 57;refine(HI.o _ _ H1.o).mono ?_;rintro e w2 ⟨rfl,r⟩;have aO:=hZ r;have B:=hZ (H1.o.trans r);have T:=hZ (aE.o.kept r);have al:=UD (w.heap.size≠w2.heap.size) (by have:=T.o.lt;omega);clear r)
  |(go_at_call 48;refine(HU.o _).mono ?_;rintro e w3 ⟨rfl,m⟩;have ah:=UD (Chg w2 w3 []) (ct cR m);have aJ:=UD (Ac w3 w2.heap.size [nI nX k,nG ⟨#[]⟩,nG ⟨#[]⟩,nS nN 0 0] 44) ((Ac.new w2 _ _).kept m);clear m)
  |(go_at_call 58;refine(HP.o _ (B.o.trans ah.o)).mono ?_;rintro e w4 ⟨z,rfl⟩;have Q:=hZ (ah.o.trans z);have am:=hZ (aJ.o.kept z);obtain⟨x1,x2,x3,x4,x5,x6⟩:=Ac.cells4 am.o;clear z)
  |(go_at_call 59;refine(S.o _ ((B.o.trans Q.o).setCell _ _ (by have:=B.o.size;simp;omega))).mono ?_;rintro e K ⟨rfl,C⟩;have an:=UD (Ac K w2.heap.size [nI nX k,nG path,nG ⟨#[]⟩,nS nN 0 0] 44) ((am.o.set 1 (nG path)).kept C);have aF:=UD (Ac K w.heap.size gj 44) (((T.o.kept Q.o).set_other _ _ al.o.symm).kept C);have L:=UD (Chg w K []) (((B.o.trans Q.o).setCell _ _ (by have:=B.o.size;simp;omega)).trans C);have c5:=L.o.keeps az.o;clear x1 x2 x3 x4 x5 x6 C)
  |(go_at_call 42;refine(aD.o K L.o).mono ?_;rintro e w6 ⟨v,bs,rfl,A,_,H⟩;obtain⟨tv,xv,rfl⟩:=A.iface;obtain⟨f,args,m1,d1⟩:=aI.o w6 _ bs A;have aC:=hZ m1;have aA:=hZ d1;have ai:=hZ H;clear A m1 d1 H c5)
  |(refine Ft rfl _ _ _ _ rfl (nF tv xv) (nS nN 0 0) ZN ZN f args aC.o _ aA.o ?_;rintro e w7 ⟨sv,rfl,X⟩;refine⟨_,rfl, ?_⟩;obtain⟨G,xs,V,g2,g3,g4⟩:=X.ex;obtain⟨I,J,rfl⟩:=V.slots;have ak:=hZ V;have aH:=hZ g2;have aB:=hZ g3;have aj:=hZ g4;have R:=hZ (ai.o.trans X.chg);have aK:=UD (K.heap.size<=w6.heap.size) ai.o.size;have ao:=hZ (an.o.kept R.o);have aG:=hZ (aF.o.kept R.o);obtain⟨x1,x2,x3,x4,x5,x6⟩:=Ac.cells4 ao.o;clear X V g2 g3 g4)
  |(refine Bp rfl _ _ rfl w2.heap.size ZN 44 (BJ (CW.toI ⟨k,path,Dz,Ai x⟩) (nS I (Ag x).nodes J)) (by exact(ao.o.set 3 (nS I (Ag x).nodes J))) _ underlying44 rfl A0 ?_)
  |(refine Ae rfl _ _ _ rfl w.heap.size (BJ (CW.toI ⟨k,path,Dz,Ai x⟩) (nS I (Ag x).nodes J)) ZN ZN 44 gj (by exact aG.o.set_other _ _ al.o.symm) A0 rfl (Dx _ _ _ _) ?_;intro w9 aN ap ar;have ay:=hZ ap;have M:=UD (Chg w7 w9 [w2.heap.size,w.heap.size]) (Chg.trans (b:=_) ((Chg.refl w7 _).setCell _ _ Zh) (ar.mono fun _ _ D=>by simp at D;simp[D]));clear aN ap ar))
 refine bodyPost_ret (Gn rfl _ _ w.heap.size 44 _ _ rfl ay.o underlying44 rfl A0) rfl ?_;have z2:=B.o.size;have l2:=an.o.lt;have l1:=T.o.lt;have z6:=aK.o;have z9:=M.o.size;have W:∀y,G y->w6.heap.size<=y/\y<w7.heap.size:=aB.o;have aL:=ak.o.kept M.o (fun g hg D=>by have:=(aj.o g hg).1;simp at D;omega);refine⟨nS I (Ag x).nodes J,xs,fun y=>G y\/(Vl.slice I (Ag x).nodes J).ownBlock=nM y,rfl, ?_,fun b o n c e=> ?_,Cr.kept (M.o.keepsB (fun y d=>(W y d).2) (fun y D d=>by have:=(W y d).1;simp at D;omega)) (fun _ h=> .inl h) aH.o,fun y d=> ?_,(L.o.trans R.o).fresh M.o (fun i hi=>by simp at hi;omega)⟩
 .show Ba w9 _ _ 6 (MW x).length xs
  rw[Ju];exact aL
 .injection e with e1 _ _
  exact .inr (by rw[e1];rfl)
 .have z5:=L.o.size;rcases d with d|d
  .have:=W y d;omega
  .have t:=(aj.o y d).1;have r:=ak.o.lt d;omega
theorem gq(ks:List BY)(l:List Tr)(vs:List Vl)(F:Nat->Prop)(a:Option Addr)(c:Nat)(p:BY)(o:CW)(w:Wl)(b:Br w)(d:dM w)(h:eR ks l vs F a w)(g:p.size<=1000)(e:∀u∈l,Bt u)(f:Xi ks l p= .yes o):
  Cl prog 36 #[nS a ks.length c,nG p] w (fV o.toI w):=by
 cases i:AN o.kind with
 |true=>exact gp ks l vs F a c p o w b d h g e f i
 |false=>exact gi ks l vs F a c p o w b d h g (fY e) f i
structure ei(N B L9 lb:Nat)(sl:Vl)(l:List Tr)(vs:List Vl)(fs:List Nat)(w:Wl):Prop where
 cn:Ac w N [nI nX (Ag (.list l)).nodes] 3
 cb:Ac w B [nI nX (Ag (.list l)).bytes] 3
 cl:Ac w L9 [nP (nM ⟨lb,0,nN⟩)] 71
 bl:Ac w lb [sl] 74
 row:AK w sl 66 vs
 at_:PsAt w l vs fs
 nd:[N,B,L9,lb].Nodup
 own:∀g,sl.ownBlock=nM g->g∉[N,B,L9,lb]
 sep:∀y,y∈fs->y<w.heap.size/\y∉[N,B,L9,lb]/\sl.ownBlock≠nM y
def eb(o:Bq)(N B f b:Nat)(c:Vl)(l:List Tr)(h:List Nat)(w:Wl)(e:Ending)(w':Wl):Prop:=
 (if Bn o≠0 then e=By (Bn o)else if(Ag (.list (l++[OK o]))).within=true then
  e= nR (nT #[])/\∃d i a,ei N B f b d (l++[OK o]) i a w'/\(∀g,d.ownBlock=nM g->c.ownBlock=nM g\/w.heap.size<=g)/\(∀y,y∈a->y∈h\/w.heap.size<=y)
 else e=By 3)/\Chg w w' (N::B::b::c.ownBlock.toList)
theorem ec(l:List Tr)(t:Tr):(Ag (.list (l++[t]))).nodes=(Ag (.list l)).nodes+(Ag t).nodes/\(Ag (.list (l++[t]))).bytes=(Ag (.list l)).bytes+(Ag t).bytes/\(Ag (.list (l++[t]))).depth=max (Ag (.list l)).depth ((Ag t).depth+1):=by
 simp only[Ag,G4,Bk,Sz.add,Sz.over];omega
theorem ed(d:(Ag (.list l)).within=true):
  (Ag (.list (l++[t]))).within=(decide ((Ag (.list l)).nodes+(Ag t).nodes<=65536)&&decide ((Ag (.list l)).bytes+(Ag t).bytes<=2097152)&&decide ((Ag t).depth<512)):=by
 obtain⟨a,b,c⟩:=ec l t;have e:=(Ar d).2.2;unfold Sz.within;rw[a,b,c]
 congr 1
 rw[decide_eq_decide];omega
theorem ev(o:Bq)(sv:Vl)(ys:List Vl)(X N B b n:Nat)(p:Vl)(l:List Tr)(d:List Nat)(w:Wl)(f:Br w)(g:T7 o)(i:As w sv 6 o.steps.length ys)(j:Az w o.steps ys)(k:Ac w X (BJ o sv) 44)(c:Bn o≠0):
  Cl prog 27 #[nP (nM ⟨X,0,nN⟩),nP (nM ⟨N,0,nN⟩),nP (nM ⟨B,0,nN⟩),nP (nM ⟨b,0,nN⟩)] w (eb o N B b n p l d w):=by
 have a:=Xu o sv ys w f g i j;rw[Co.no rfl c]at a;have s:=hZ a;have t:=hZ k
 have r:=UD (∀w',Chg w w' []->eb o N B b n p l d w (By (Bn o)) w') fun w' u=>by
  unfold eb;rw[Qr c];exact⟨rfl,u.none _⟩
 clear a f g i j k c;go_enter func27,ntmps27
 go_wp2_with(first
  |(refine Bp rfl _ _ rfl X ZN 44 (BJ o sv) (by exact t.o) _ underlying44 rfl A0 ?_)
  |(go_at_call 29;refine s.o.mono ?_;rintro e w2 ⟨m,h⟩;have q:=hZ h;unfold By at m;subst m;clear h))
 exact⟨rfl,r.o _ q.o⟩
theorem ej{ts:List BY}(h:AD s=nM ts):Utf.Al s=true:=by
 unfold AD at h;split at h
 .rename_i a;exact a.1
 .cases h
theorem ek(h:Utf.Al s=true)(a:s.size<=2097152):Av (.text s)/\(Ag (.text s)).within=true:=⟨⟨h,a⟩,by unfold Ag Sz.within;simp;omega⟩
theorem el{k:Nat}(h:1<=k/\k<=6):Av (.text (Ec k))/\(Ag (.text (Ec k))).within=true:=by
 have:k=1\/k=2\/k=3\/k=4\/k=5\/k=6:=Zj;rcases this with rfl|rfl|rfl|rfl|rfl|rfl<;>exact ek Yb ZM
theorem eo(f:Bn o=0)(n:o.path.size<=2097152)(m:o.frm.size<=2097152)(l:∀s∈o.steps,Di s):∀u∈Ab (OK o),Av u/\(Ag u).within=true:=by
 obtain⟨q,⟨ts,g⟩,h,i⟩:=EK f;have d:=el (k:=o.kind.toNat) Zj;have c:=ek (ej g) n;intro u a;unfold OK Ze at a;split at a
 .rename_i j;obtain⟨p,b⟩:=h (by unfold AO;simp;omega);simp only[Ab,Qh,List.not_mem_nil,or_false]at a;rcases a with rfl|rfl|rfl
  .exact ek (ej b) m
  .exact d
  .exact c
 .split at a
  .rename_i j;obtain⟨x,b⟩:=i (by unfold AN;simp;omega);have e:=FD l b;rw[b,Option.getD_some]at a;simp only[Ab,Qh,List.not_mem_nil,or_false]at a;rcases a with rfl|rfl|rfl
   .exact d
   .exact c
   .exact⟨e.good,e.fits⟩
  .simp only[Ab,Qh,List.not_mem_nil,or_false]at a;rcases a with rfl|rfl
   .exact d
   .exact c
theorem eu{x:Tr}(h:AN o.kind=true->AS o.steps=nM x)(c:1<=o.kind):OK o=Ze o.kind.toNat o.path o.frm x:=by
 unfold OK;by_cases b:AN o.kind=true
 .rw[h b];rfl
 .have a:¬(o.kind.toNat=1\/o.kind.toNat=3\/o.kind.toNat=6):=fun e=>b (by unfold AN;simp;omega);unfold Ze;rw[Qs a,Qs a]
theorem en(a:∀u∈Ab (OK o),Av u/\(Ag u).within=true):(Ag (OK o)).nodes<=200000/\(Ag (OK o)).bytes<=7000000/\(Ag (OK o)).depth<=513:=by
 obtain⟨ks,l,e,f,g,h⟩:=ea o.kind.toNat o.path o.frm ((AS o.steps).getD .null);have b:OK o= .obj ks l:=e;rw[b]at a|-;have c:=KW (l:=l) (fun u d=>(a u d).2) l.length;rw[List.take_length]at c;simp only[Ag,Sz.over];omega
end
section
open Go Go.RowKit Tree Ptr
variable{p:Prop}
theorem z1j(h:p:=by decide+kernel):p:=h
theorem eH:Cy [Oa,SB,Fj]/\Cy [SB,Fj,SZ]/\Cy [SB,Fj]:=by
 have b:∀s:BY,s∈[Oa,SB,Fj,SZ]->Utf.Al s=true/\s.size<=2147483648:=by
  intro s a;simp only[Qh,List.not_mem_nil,or_false]at a;rcases a with rfl|rfl|rfl|rfl<;>exact⟨Yb,ZM⟩
 have f:Utf.BK Oa SB<0:=z1j
 have g:Utf.BK Oa Fj<0:=z1j
 have i:Utf.BK SB Fj<0:=z1j
 have j:Utf.BK SB SZ<0:=z1j
 have k:Utf.BK Fj SZ<0:=z1j
 have d:∀s,s∈[Oa,SB,Fj]->s∈[Oa,SB,Fj,SZ]:=fun s h=>Qe [SZ] h;have c:∀s,s∈[SB,Fj,SZ]->s∈[Oa,SB,Fj,SZ]:=fun s h=>Qg _ h;have e:∀s,s∈[SB,Fj]->s∈[Oa,SB,Fj,SZ]:=fun s h=>c s (Qe [SZ] h);refine⟨⟨fun s a=>(b s (d s a)).1,fun s a=>(b s (d s a)).2, ?_, ?_⟩,⟨fun s a=>(b s (c s a)).1,fun s a=>(b s (c s a)).2, ?_, ?_⟩,⟨fun s a=>(b s (e s a)).1,fun s a=>(b s (e s a)).2, ?_, ?_⟩⟩
 all_goals first
  |(simp only[Qj,List.length_nil];omega)
  |(simp only[List.pairwise_cons,Qh,List.not_mem_nil,or_false,forall_eq_or_imp,forall_eq,List.Pairwise.nil,and_true,false_imp_iff,implies_true];simp only[f,g,i,j,k,and_self])
theorem z1n(h:p:=by assumption):p:=h
theorem eI{o:Bq}(a:∀u∈Ab (OK o),Av u/\(Ag u).within=true):Av (OK o):=by
 obtain⟨b,c,d⟩:=eH;unfold OK Ze at a|-;split at a
 .rw[Qr z1n];simp only[Ab,Qh,List.not_mem_nil,or_false,forall_eq_or_imp,forall_eq]at a;exact⟨b,rfl,a.1.1,a.2.1.1,a.2.2.1,trivial⟩
 .rw[Qs z1n];split at a
  .rw[Qr z1n];simp only[Ab,Qh,List.not_mem_nil,or_false,forall_eq_or_imp,forall_eq]at a;exact⟨c,rfl,a.1.1,a.2.1.1,a.2.2.1,trivial⟩
  .rw[Qs z1n];simp only[Ab,Qh,List.not_mem_nil,or_false,forall_eq_or_imp,forall_eq]at a;exact⟨d,rfl,a.1.1,a.2.1,trivial⟩
theorem eJ{l:List Bq}(b:∀o∈l,Bn o=0)(f:∀o∈l,T7 o/\o.path.size<=2097152/\o.frm.size<=2097152)(h:(Ag (.list (l.map OK))).within=true):Bt (.list (l.map OK)):=by
 refine⟨?_,h⟩;refine Cu.2 fun t g=> ?_;obtain⟨o,a,rfl⟩:=List.mem_map.1 g;obtain⟨c,d,e⟩:=f o a;exact eI (eo (b o a) d e c.steps)
end
section
open _root_.Go.Proofs.Tryz
open Go Go.Shelf Go.RowKit Go.Lib Tree Ptr
variable{a:List Bq}{l:List Tr}{vs:List Vl}{B N d i:Nat}{F:Nat->Prop}{p:Prop}{j v:Vl}{w w' w0:Wl}
theorem ew{o t u x k:Wl}{m g cap:Nat}{T:Tr}{A bs:List Nat}(h:ei N B m d j l vs A w)(p:Chg w o [])(n:Chg o t [])(C:Chg t u [N,B])(D:Chg u x j.ownBlock.toList)(r:Chg x k [d])(Q:Ac k N [nI nX (Ag (.list (l++[T]))).nodes] 3)(M:Ac k B [nI nX (Ag (.list (l++[T]))).bytes] 3)(U:Ac k d [nS (nM ⟨g,0,nN⟩) (vs.length+1) cap] 74)(W:AK x (nS (nM ⟨g,0,nN⟩) (vs.length+1) cap) 66 (vs++[v]))(c:j.ownBlock=nM g\/u.heap.size<=g)(J:AP o T v bs)(E:∀y,y∈bs->w.heap.size<=y):ei N B m d (nS (nM ⟨g,0,nN⟩) (vs.length+1) cap) (l++[T]) (vs++[v]) (A++bs) k:=by
 have lN:=h.cn.lt;have lB:=h.cb.lt;have lL:=h.cl.lt;have ll:=h.bl.lt;have z3:=p.size;have z4:=n.size;have z6:=C.size;have z7:=D.size;have z8:=r.size;have s:∀y,y∈[N,B,m,d]->y<w.heap.size:=fun y b=>by simp at b;omega
 have I:∀y,j.ownBlock=nM y->y<w.heap.size:=fun y b=>h.row.lt b
 have F:∀y,y∈[N,B,m,d]->y≠g:=fun y b e=>by
  subst e;rcases c with c|c
  .exact h.own _ c b
  .have:=s _ b;omega
 have V:=h.nd;have H:=h.nd;simp only[List.nodup_cons,Qh,List.not_mem_nil,or_false,not_or,not_false_eq_true,List.nodup_nil,and_true]at H;obtain⟨⟨Y,R,Z⟩,⟨O,X⟩,P⟩:=H;have S:∀y,y∈bs->y<o.heap.size:=AP.lt _ _ _ J;have q:Chg t k (N::B::d::j.ownBlock.toList):=((C.mono (fun _ _ a=>by simp at a|-;omega)).trans (D.mono (fun _ _ a=>by simp at a|-;simp[a]))).trans (r.mono (fun _ _ a=>by simp at a|-;simp[a]))
 have G:∀y,y∈N::B::d::j.ownBlock.toList->y∈[N,B,m,d]\/j.ownBlock=nM y:=fun y b=>by
  simp only[Qh,Option.mem_toList]at b;rcases b with rfl|rfl|rfl|b
  .simp
  .simp
  .simp
  .exact .inr b
 refine⟨Q,M,((h.cl.kept (p.trans n)).kept q (fun a=> ?_)),U,W.kept r (fun y b a=> ?_), ?_,V,fun y b a=> ?_,fun y b=> ?_⟩
 .simp only[Qh,Option.mem_toList]at a;rcases a with a|a|a|a
  .exact R a.symm
  .exact O a.symm
  .exact P a
  .exact h.own _ a Zh
 .simp at a;subst a;have e:g=y:=by injection b
  exact F y Zh e.symm
 .refine PsAt.snoc ((h.at_.chg (p.trans n) Zh).chg q (fun y b a=> ?_)) ((J.chg n Zh).chg q (fun y b a=> ?_))
  .have f:=h.sep y a;rcases G y b with i|i
   .exact f.2.1 i
   .exact f.2.2 i
  .have f:=E y a;rcases G y b with i|i
   .have:=s y i;omega
   .have:=I y i;omega
 .have e:g=y:=by injection b
  exact F y a e.symm
 .rcases Qf.1 b with f|f
  .obtain⟨K,z,L⟩:=h.sep y f;refine⟨Zj,z,fun e=> ?_⟩;have e:g=y:=by injection e
   subst e;rcases c with c|c
   .exact L c
   .omega
  .have K:=E y f;have z:=S y f;refine⟨Zj,fun a=>by have:=s y a;omega,fun e=> ?_⟩;have e:g=y:=by injection e
   subst e;rcases c with c|c
   .have:=I _ c;omega
   .omega
theorem z0z(h:p:=by go_wp2_with(go_at_call 30;refine(Bu _ _).mono ?_;rintro e w9 ⟨i,f⟩;unfold By at i;subst i;have z:=hZ f;clear f);refine⟨rfl, ?_⟩;unfold eb;rw[Qs (by simp[Q.o]),<-C.o,V.o,Qs (by simp;omega)];exact⟨rfl,U.o.trans (z.o.none _)⟩):p:=h
theorem z1l(h:p:=by simpa using a):p:=h
theorem ey(o:Bq)(sv:Vl)(ys:List Vl)(X N B D d:Nat)(sl:Vl)(l:List Tr)(vs:List Vl)(fs:List Nat)(w:Wl)(hL:Br w)(aH:dM w)(hO:T7 o)(hp:o.path.size<=2097152)(hf:o.frm.size<=2097152)(hR:As w sv 6 o.steps.length ys)(hS:Az w o.steps ys)(hX:Ac w X (BJ o sv) 44)(E:Bn o=0)(h:ei N B D d sl l vs fs w)(hw:(Ag (.list l)).within=true)(hl:l.length<=65536):
  Cl prog 27 #[nP (nM ⟨X,0,nN⟩),nP (nM ⟨N,0,nN⟩),nP (nM ⟨B,0,nN⟩),nP (nM ⟨D,0,nN⟩)] w (eb o N B D d sl l fs w):=by
 obtain⟨s,u,rfl,_⟩:=h.row.form;have a0:=hZ h.at_.length;have HR:=Xu o sv ys w hL hO hR hS;have hk:=(EK E).1;obtain⟨m,a⟩:∃m:Nat,o.kind=(m:Int)+1:=⟨o.kind.toNat-1,Zj⟩;have a6:m<6:=Zj;have ag:=eo E hp hf hO.steps;have Y:=en ag;have ai:=ed (t:=OK o) hw;have ah:=ec l (OK o);have aj:=Ar hw;have eR:Co o sv w=fun e w'=>∃path frm x,I8 o path frm x sv w e w'/\(AN o.kind=true->AS o.steps=nM x):=by funext e w';unfold Co;rw[Qs (by simp[E])]
 rw[eR]at HR;have aZ:=hZ HR;have HX:=hZ hX;have b:=hZ h;have a1:=hZ aH;have aw:=UD (∀wx v bs,AP wx (OK o) v bs->JB v (Ag (OK o)) wx) fun wx v bs r=>eh ag r;have A:=hZ a;have Q:=hZ E;obtain⟨T,G⟩:=Ue (OK o);have C:=hZ G;rw[<-G]at Y aw;obtain⟨O,J⟩:=Ue ((Ag T).nodes);obtain⟨M,I⟩:=Ue ((Ag T).bytes);obtain⟨td,Z⟩:=Ue ((Ag T).depth);obtain⟨L,H⟩:=Ue ((Ag (.list l)).nodes);obtain⟨K,j⟩:=Ue ((Ag (.list l)).bytes);have ae:=hZ (And.intro J (And.intro I Z));have au:=hZ (And.intro H j);rw[<-G,<-J,<-I,<-Z,<-H,<-j]at ai;rw[<-G,<-J,<-I,<-H,<-j]at ah;have V:=hZ ai;have ax:=hZ ah;rw[<-J,<-I,<-Z]at Y;rw[<-H,<-j]at aj;have br:IntKind.i64.wrap ((L:Int)+(O:Int))=(L:Int)+(O:Int):=IntWalk.i64_in _ ⟨Zj,Zj⟩;have bt:IntKind.i64.wrap ((K:Int)+(M:Int))=(K:Int)+(M:Int):=IntWalk.i64_in _ ⟨Zj,Zj⟩;have bc:=hZ Y;have bd:=hZ aj;have aR:=hZ hl;clear HR eR hL hO hR hS hX E h hw hl ag Y ai ah aj aH hp hf hk a G J I Z H j;go_enter func27,ntmps27
 go_upto_region 2 with(first
  |(refine Bp rfl _ _ rfl X ZN 44 (BJ o sv) (by exact HX.o) _ underlying44 rfl A0 ?_)
  |(go_at_call 29;refine aZ.o.mono ?_;rintro e w2 ⟨path,frm,x,⟨slp,bb,vx,bx,F,F2,rfl,aM,j,_,_,_,aJ,a7⟩,aI⟩;have av:=hZ aM;have ar:=hZ j;have R:=hZ aJ;have aQ:=hZ aI;rw[A.o];clear aM j aJ aI a7)
  |(go_at_call 28;go_loud(refine(ee m o.path o.frm x sv slp bb vx bx w2 a6 (a1.o.kept R.o) (fun hu=>⟨(av.o.val (by rw[A.o];exact hu)).1,AP.lt _ _ _ (av.o.val (by rw[A.o];exact hu)).1⟩)).mono ?_;rintro e w3 ⟨v,bs,rfl,q1,q2,h3⟩;have r:AP w3 T v bs:=(by rw[C.o,eu aQ.o (by rw[A.o];omega),A.o];exact q1);obtain⟨ti,xi,rfl⟩:=r.iface;have Q1:=hZ r;have Q2:=hZ q2;have H3:=hZ (R.o.trans h3);obtain⟨sf,ba,a9,a8⟩:=aw.o w3 _ bs r;clear q1 q2 h3 r))
  |(refine Am rfl _ _ _ rfl _ rfl sf ba a9 _ a8 ?_;rintro e w4 ⟨rfl,h4⟩;refine⟨_,rfl, ?_⟩;have aN:=hZ h4;have k:=hZ (H3.o.trans h4);unfold Jv;clear h4))
 rw[<-ae.o.1,<-ae.o.2.1,<-ae.o.2.2];have aL:=b.o.nd;simp only[List.nodup_cons,Qh,List.not_mem_nil,or_false,not_or,not_false_eq_true,List.nodup_nil,and_true]at aL;obtain⟨⟨aF,a4,aG⟩,⟨a3,aB⟩,bm⟩:=aL;have W:=b.o.cn.kept k.o;have af:=b.o.cb.kept k.o;rw[<-au.o.1]at W;rw[<-au.o.2]at af;have aO:=hZ af;have aV:=hZ W;obtain⟨lN,fN,cN⟩:=Ac.cells1 W;clear W af;go_upto_region 3 with fail;obtain⟨P,aa⟩:=Ue (w4.setCell ⟨N,0,nN⟩ (nI nX ((L:Int)+(O:Int))))
 have ak:Hid (Chg w4 P [N]):=by rw[aa];exact hZ ((Chg.refl w4 [N]).setCell _ _ Zh)
 have aW:Hid (Ac P N [nI nX ((L:Int)+(O:Int))] 3):=by rw[aa];exact hZ (aV.o.set 0 _)
 have am:=hZ (aO.o.kept ak.o (by simp;exact fun e=>aF e.symm));rw[<-aa];clear aa lN fN cN;obtain⟨lB,fB,cB⟩:=Ac.cells1 am.o;go_upto_region 4 with fail;obtain⟨n,ab⟩:=Ue (P.setCell ⟨B,0,nN⟩ (nI nX ((K:Int)+(M:Int))))
 have al:Hid (Chg P n [B]):=by rw[ab];exact hZ ((Chg.refl P [B]).setCell _ _ Zh)
 have aP:Hid (Ac n B [nI nX ((K:Int)+(M:Int))] 3):=by rw[ab];exact hZ (am.o.set 0 _)
 have aX:=hZ (aW.o.kept al.o (by simp;exact aF));have p:=UD (Chg w4 n [N,B]) ((ak.o.mono (fun _ _ h=>by simp at h;simp[h])).trans (al.o.mono (fun _ _ h=>by simp at h;simp[h])));have ap:=hZ ((b.o.cl.kept k.o).kept p.o (by simp;exact⟨fun e=>a4 e.symm,fun e=>a3 e.symm⟩));have az:=hZ ((b.o.bl.kept k.o).kept p.o (by simp;exact⟨fun e=>aG e.symm,fun e=>aB e.symm⟩));have aY:=hZ ((b.o.row.kept k.o).kept p.o (fun g hg a=>b.o.own g hg (by simp at a;simp;omega)));rw[<-ab];clear ab lB fB cB;obtain⟨lL,fL,cL⟩:=Ac.cells1 ap.o;obtain⟨ll,fl,cl⟩:=Ac.cells1 az.o;have aK:d∉(Vl.slice s vs.length u).ownBlock.toList:=fun a=>b.o.own d z1l Zh;have aT:=hZ aK;have aU:=UD (D∉(Vl.slice s vs.length u).ownBlock.toList) fun a=>b.o.own D z1l Zh;have ay:=UD (vs.length<=65536) (by have:=aR.o;have:=a0.o;omega);clear aK;go_region_law(go_loud(refine Df rfl _ _ _ rfl 66 .nilIface 16 underlying72 Jh rfl (nS s vs.length u) vs ZN (by exact aY.o.kept (bs:=[]) z1m Zh) n.heap.size (nF ti xi) ZN (by exact Bx rfl _ _) rfl (by have:=ay.o;omega) (by have:=ay.o;omega) ?_;intro g cap w7 aE aC aD;have aS:=hZ aE;have q:=UD (Chg n w7 (Vl.slice s vs.length u).ownBlock.toList) (ct ((Chg.refl n []).none _) aC);have ao:=UD ((Vl.slice s vs.length u).ownBlock=nM g\/n.heap.size<=g) (aD.imp id (fun h=>by rw[h];simp));have aA:=hZ (az.o.kept q.o aT.o);obtain⟨bq,bl,bh⟩:=Ac.cells1 aA.o;obtain⟨bo,bj,bf⟩:=Ac.cells1 (ap.o.kept q.o aU.o);clear aE aC aD))
 all_goals
  obtain⟨w8,ad⟩:=Ue (w7.setCell ⟨d,0,nN⟩ (nS (nM ⟨g,0,nN⟩) (vs.length+1) cap));have S:Hid (Chg w7 w8 [d]):=by rw[ad];exact hZ ((Chg.refl w7 [d]).setCell _ _ Zh)
  have a2:Hid (Ac w8 d [nS (nM ⟨g,0,nN⟩) (vs.length+1) cap] 74):=by rw[ad];exact hZ (aA.o.set 0 _)
  have aq:=hZ ((aX.o.kept q.o (fun a=>b.o.own N z1l Zh)).kept S.o (by simp;exact aG));have an:=hZ ((aP.o.kept q.o (fun a=>b.o.own B z1l Zh)).kept S.o (by simp;exact aB));have U:=UD (Chg w w8 (N::B::d::(Vl.slice s vs.length u).ownBlock.toList)) ((((k.o.none _).trans (p.o.mono (fun _ _ a=>by simp at a|-;omega))).trans (q.o.mono (fun _ _ a=>by simp at a|-;simp[a]))).trans (S.o.mono (fun _ _ a=>by simp at a|-;simp[a])));rw[<-ad];clear ad;obtain⟨bp,bk,bg⟩:=Ac.cells1 aq.o;obtain⟨bn,bi,be⟩:=Ac.cells1 an.o;by_cases q1:(L:Int)+(O:Int)<=65536
  .by_cases q2:(K:Int)+(M:Int)<=2097152
   .by_cases q3:(td:Int)<512
    .go_wp2_with(go_at_call 30;refine(Bv _ _).mono ?_;rintro e w9 ⟨rfl,rfl⟩);go_end0
     unfold eb;rw[Qs (by simp[Q.o]),<-C.o,V.o,Qr (by simp;omega)];refine⟨⟨rfl,_,vs++[nF ti xi],fs++bs,ew b.o H3.o aN.o p.o q.o S.o (by rw[ax.o.1,Int.natCast_add];exact aq.o) (by rw[ax.o.2.1,Int.natCast_add];exact an.o) a2.o aS.o ao.o Q1.o (fun y hy=> ?_),fun g2 a5=> ?_,fun y hy=> ?_⟩,U.o⟩
     .rcases Q2.o y hy with c|c
      .exact Q7 R.o.size c
      .exact ar.o.ge y c
     .have e:g=g2:=by injection a5
      subst e;exact ao.o.imp id (fun c=>Q7 (Q7 k.o.size p.o.size) c)
     .refine(Qf.1 hy).imp id fun c=> ?_;rcases Q2.o y c with c|c
      .exact Q7 R.o.size c
      .exact ar.o.ge y c
    .skip
     exact z0z
   .skip
    exact z0z
  .skip
   exact z0z
theorem eB(o:Bq)(sv:Vl)(ys:List Vl)(X N B a c:Nat)(d:Vl)(l:List Tr)(vs:List Vl)(b:List Nat)(w:Wl)(f:Br w)(m:dM w)(g:T7 o)(q:o.path.size<=2097152)(n:o.frm.size<=2097152)(i:As w sv 6 o.steps.length ys)(j:Az w o.steps ys)(k:Ac w X (BJ o sv) 44)(h:ei N B a c d l vs b w)(r:(Ag (.list l)).within=true)(p:l.length<=65536):
  Cl prog 27 #[nP (nM ⟨X,0,nN⟩),nP (nM ⟨N,0,nN⟩),nP (nM ⟨B,0,nN⟩),nP (nM ⟨a,0,nN⟩)] w (eb o N B a c d l b w):=by
 by_cases e:Bn o=0
 .exact ey o sv ys X N B a c d l vs b w f m g q n i j k e h r p
 .exact ev o sv ys X N B a c d l b w f g i j k e
theorem ei.kept{e:Nat}{f cs:List Nat}(h:ei N B e i j l vs f w)(b:Chg w w' cs)(c:∀y,y∈cs->y∉[N,B,e,i]/\j.ownBlock≠nM y/\y∉f):ei N B e i j l vs f w':=
 ⟨h.cn.kept b (fun a=>(c _ a).1 (by simp)),h.cb.kept b (fun a=>(c _ a).1 (by simp)),h.cl.kept b (fun a=>(c _ a).1 (by simp)),h.bl.kept b (fun a=>(c _ a).1 (by simp)),h.row.kept b (fun g k a=>(c g a).2.1 k),
  h.at_.chg b (fun y d a=>(c y d).2.2 a),h.nd,h.own,fun y d=>⟨Q6 (h.sep y d).1 b.size,(h.sep y d).2⟩⟩
def ez(r:ZW)(w:Wl)(e:Ending)(w':Wl):Prop:=match r with
 | .yes t=>F9 t w e w'
 | .no k i=>e= nR (nT #[nP nN,Hk k i])/\Chg w w' []
structure eC(w0:Wl)(N B L9 lb:Nat)(ops:List Bq)(i:Nat)(w:Wl):Prop where
 ex:∃sl vs fs,ei N B L9 lb sl ((ops.take i).map OK) vs fs w/\(∀g,sl.ownBlock=nM g->w0.heap.size<=g)/\(∀y,y∈fs->w0.heap.size<=y)
 right:∀o∈ops.take i,Bn o=0
 fits:(Ag (.list ((ops.take i).map OK))).within=true
 chg:Chg w0 w []
 run:∀r,Sp [] 0 ops=r->Sp ((ops.take i).map OK) i (ops.drop i)=r
theorem eC.kept2{a c:Nat}{d:List Bq}(h:eC w0 N B a c d i w)(b:Chg w w' []):eC w0 N B a c d i w':=by
 obtain⟨l,vs,e,f,g,j⟩:=h.ex;exact⟨⟨l,vs,e,f.kept b (fun y k=>(by cases k)),g,j⟩,h.right,h.fits,h.chg.trans b,h.run⟩
theorem eA{o:Bq}(b:a[i]? =nM o):a.drop i=o::a.drop (i+1):=by
 obtain⟨h,e⟩:=Qc.1 b;rw[<-e];exact List.drop_eq_getElem_cons h
theorem eG{a b:Int}(h:By a=By b):a=b:=by unfold By KN at h;simpa using h
def eE(w0:Wl)(N B b c:Nat)(a:List Bq)(i:Nat)(e:Ending)(w':Wl):Prop:=
 (e= nR (nI nX 0)/\eC w0 N B b c a (i+1) w')\/(∃k:Nat,k≠0/\e= nR (nI nX k)/\Sp [] 0 a= .no k i/\Chg w0 w' [])
theorem eF(w0:Wl)(N B s n:Nat)(q:List Bq)(i:Nat)(o:Bq)(sv:Vl)(ys:List Vl)(X:Nat)(w:Wl)(l:eC w0 N B s n q i w)(E:∀y,y∈[N,B,s,n]->w0.heap.size<=y)(M:q[i]? =nM o)(T:Br w)(Y:dM w)(U:T7 o)(A:o.path.size<=2097152)(hf:o.frm.size<=2097152)(V:As w sv 6 o.steps.length ys)(W:Az w o.steps ys)(Z:Ac w X (BJ o sv) 44)(hn:q.length<=65536):
  Cl prog 26 #[.func (.func 27) #[] #[nP (nM ⟨X,0,nN⟩),nP (nM ⟨N,0,nN⟩),nP (nM ⟨B,0,nN⟩),nP (nM ⟨s,0,nN⟩)]] w (eE w0 N B s n q i):=by
 obtain⟨u,vs,L,f,O,aa⟩:=l.ex
 have ae:∀y,y∈N::B::n::u.ownBlock.toList->y<w.heap.size:=fun y b=>by
  simp only[Qh,Option.mem_toList]at b;rcases b with rfl|rfl|rfl|b
  .exact f.cn.lt
  .exact f.cb.lt
  .exact f.bl.lt
  .exact f.row.lt b
 have ab:∀y,y∈N::B::n::u.ownBlock.toList->w0.heap.size<=y:=fun y b=>by
  simp only[Qh,Option.mem_toList]at b;rcases b with rfl|rfl|rfl|b
  .exact E _ (by simp)
  .exact E _ (by simp)
  .exact E _ (by simp)
  .exact O _ b
 have ad:((q.take i).map OK).length<=65536:=by rw[List.length_map,Ql];omega
 refine(Xp 27 _ (N::B::n::u.ownBlock.toList) w (fun v e H=>eb o N B s n u ((q.take i).map OK) L v e H) ae (fun _=>by kernel_rfl) (fun v t=>eB o sv ys X N B s n u _ vs L v (T.kept t (by simp)) (Y.kept t) U A hf (V.kept t) (Az.kept t W) (Z.kept t (by simp)) (f.kept t (by simp)) l.fits ad) (fun v e H h=> ?_)).mono fun e w' ⟨v,H,aj,I,R,ak,J,K,af⟩=> ?_
 .refine⟨h.2, ?_⟩;have a:=h.1;split at a
  .exact .inr ⟨_,a⟩
  .split at a
   .exact .inl a.1
   .exact .inr ⟨3,a⟩
 .have F:Chg w0 w' []:=((l.chg.trans I).fresh K ab).fresh J (fun y b=>by simp at b;subst b;exact Q7 l.chg.size R);have m:=l.run _ rfl;rw[eA M]at m;simp only[Sp]at m;rcases af with⟨G,x⟩|⟨k,G,x⟩
  .have a:=G.1;split at a
   .rename_i j;unfold By at a;cases a
   .rename_i j;split at a
    .rename_i D;obtain⟨_,ah,ai,S,t1,P,Q⟩:=a;rw[Qs j,Qr D]at m;have C:q.take (i+1)=q.take i++[o]:=Cb M;have al:=I.size;have am:=K.size;refine .inl ⟨x,⟨ah,ai,S, ?_,fun g hg=> ?_,fun y b=> ?_⟩,fun p A=> ?_, ?_,F,fun r ag=> ?_⟩
     .rw[C,List.map_append];refine t1.kept J (fun y b=> ?_);simp at b;subst b;refine⟨fun z=> ?_,fun d=> ?_,fun z=> ?_⟩
      .have:y<w.heap.size:=by
        simp only[Qh,List.not_mem_nil,or_false]at z;rcases z with d|d|d|d
        .rw[d];exact f.cn.lt
        .rw[d];exact f.cb.lt
        .rw[d];exact f.cl.lt
        .rw[d];exact f.bl.lt
       omega
      .rcases P _ d with c|c
       .have:=f.row.lt c;omega
       .omega
      .rcases Q _ z with c|c
       .have:=(f.sep _ c).1;omega
       .omega
     .rcases P g hg with c|c
      .exact O g c
      .have:=l.chg.size;omega
     .rcases Q y b with c|c
      .exact aa y c
      .have:=l.chg.size;omega
     .rw[C]at A;rcases Qf.1 A with c|c
      .exact l.right p c
      .simp at c;subst c;simpa using j
     .rw[C,List.map_append];exact D
     .rw[C,List.map_append];rw[<-ag,<-m];rfl
    .unfold By at a;cases a
  .have a:=G.1;split at a
   .rename_i j;rw[Qr j]at m;exact .inr ⟨_,j,by rw[x,eG a],m.symm,F⟩
   .rename_i j;split at a
    .obtain⟨d,_⟩:=a;unfold By at d;cases d
    .rename_i D;rw[Qs j,Qs D]at m;exact .inr ⟨3,by decide,by rw[x,eG a];rfl,m.symm,F⟩
theorem ei.start(w:Wl):ei (w.heap.size+1+1) (w.heap.size+1+1+1) (w.heap.size+1) w.heap.size (nS nN 0 0) [] [] [] ((((w.alloc (nC #[nS nN 0 0] 74)).alloc (nC #[nP (nM ⟨w.heap.size,0,nN⟩)] 71)).alloc (nC #[nI nX 1] 3)).alloc (nC #[nI nX 0] 3)):=by
 refine⟨(BD _ _ [nI nX 1] _ _ rfl (by simp)).alloc _,BD _ _ [nI nX 0] _ _ rfl (by simp),((BD _ _ _ _ _ rfl (by simp)).alloc _).alloc _,(((BD _ _ _ _ _ rfl rfl).alloc _).alloc _).alloc _,AK.nil _ _,⟨rfl,rfl⟩, ?_,fun g a=>(by cases a),fun y b=>(by cases b)⟩;simp;omega
theorem eK{f:Nat}(h:eC w0 N B f d a a.length w)(j:∀o∈a,T7 o/\o.path.size<=2097152/\o.frm.size<=2097152):
  Bt (.list (a.map OK))/\(∃bs,AP w (.list (a.map OK)) (Jn d) bs)/\Sp [] 0 a= .yes (.list (a.map OK))/\w.cell? ⟨f,0,nN⟩=nM (nP (nM ⟨d,0,nN⟩)):=by
 obtain⟨n,vs,k,b,l,m⟩:=h.ex;have e:a.take a.length=a:=Qn (Q8 _);have c:=h.run _ rfl;have i:=h.fits;have g:=h.right;rw[e]at i g c b;rw[List.drop_length]at c;exact⟨eJ g j i,⟨_,Sy.pat ⟨b.bl,b.row,b.at_⟩⟩,c.symm,b.cl.cell 0⟩
theorem z1k(h:p:=by have:=f.o;omega):p:=h
theorem gy(a:List Bq)(so:Vl)(xs:List Vl)(w:Wl)(hL:Br w)(Z:10<=w.heap.size)(aa:dM w)(H:As w so 4 a.length xs)(hI:Cc w a xs)(hs:∀o∈a,T7 o/\o.path.size<=2097152/\o.frm.size<=2097152)(hn:a.length<=65536):
  Cl prog 9 #[so] w (ez (Sp [] 0 a) w):=by
 obtain⟨sa,sc,rfl,_⟩:=H.form;have aw:∀(Y:Fn) (first cap:Array Vl) (w:Wl),(Instr.makeFunc Y first cap).run prog w= .ok (.func Y first cap) w:=fun _ _ _ _=>rfl;have HL:=hZ hL;have ar:=hZ Z;have aq:=hZ aa;have T:=hZ H;have HI:=hZ hI;have U:=hZ hs;obtain⟨n,K⟩:∃n,n=a.length:=⟨_,rfl⟩;have f:=hZ K;rw[<-K]at hn|-;have au:¬((65536:Int)<(n:Int)):=by omega
 clear hL Z aa H hI hs K;go_enter func9,ntmps9;go_wp2_with fail;obtain⟨R,t⟩:∃y,y=(((w.alloc (nC #[nS nN 0 0] 74)).alloc (nC #[nP (nM ⟨w.heap.size,0,nN⟩)] 71)).alloc (nC #[nI nX 1] 3)).alloc (nC #[nI nX 0] 3):=⟨_,rfl⟩;have s:ei (w.heap.size+1+1) (w.heap.size+1+1+1) (w.heap.size+1) w.heap.size (nS nN 0 0) [] [] [] R:=by rw[t];exact ei.start w
 have h4:Chg w R []:=by rw[t];exact(((((Chg.refl w []).alloc _).alloc _).alloc _).alloc _)
 rw[<-t];obtain⟨N,G⟩:∃x,x=w.heap.size+1+1:=⟨_,rfl⟩;obtain⟨B,D⟩:∃x,x=w.heap.size+1+1+1:=⟨_,rfl⟩;obtain⟨p,E⟩:∃x,x=w.heap.size+1:=⟨_,rfl⟩;obtain⟨v,ag⟩:∃x,x=w.heap.size:=⟨_,rfl⟩
 have ad:∀y,y∈[N,B,p,v]->w.heap.size<=y:=fun y M=>by
  simp only[Qh,List.not_mem_nil,or_false]at M;omega
 have ap:=hZ ad;rw[<-D,<-G,<-E]at s;rw[<-D,<-G,<-E];rw[<-ag]at s|-;have V:Hid (eC w N B p v a 0 R):=hZ ⟨⟨_,_,_,s,fun g hg=>(by cases hg),fun y M=>(by cases M)⟩,fun o d=>(by cases d),(by rfl),h4,fun r hr=>hr⟩;clear s h4 t ad G D E ag;go_loopw [18] (fun Q wr=>∃k:Nat,k<=n/\Q= nI nX k/\eC w N B p v a k wr) (fun Q _=>n-(intOf Q).toNat)
 case atStart=>exact⟨0,by omega,rfl,V.o⟩
 case round=>
  obtain⟨k,hk,rfl,ae⟩:=hrel;have c:=hZ ae;clear ae V;by_cases av:k<n
  .obtain⟨o,d⟩:∃o,a[k]? =nM o:=⟨_,Q9 z1k⟩;obtain⟨b,ob,rfl,_⟩:=T.o.base z1k (by decide);obtain⟨sv,ys,L,ao,an⟩:=Cc.item T.o z1k HI.o d;obtain⟨O,P,rfl,_⟩:=L.form;have h:∀j x,(BJ o (nS O o.steps.length P))[j]? =nM x->wr.cell? ⟨b,ob+k*4+j,nN⟩=nM x:=fun j x hx=>c.o.chg.keeps (an j x hx);have X:=h 0 _ rfl;have c1:=h 1 _ rfl;have c2:=h 2 _ rfl;have c3:=h 3 _ rfl;rw[Nat.add_zero]at X;obtain⟨S,u⟩:∃y,y=wr.alloc (nC #[nI nX o.kind,nG o.path,nG o.frm,nS O o.steps.length P] 44):=⟨_,rfl⟩;have I:Chg wr S []:=by rw[u];exact(Chg.refl wr []).alloc _
   have ab:Ac S wr.heap.size (BJ o (nS O o.steps.length P)) 44:=by rw[u];exact BD _ _ _ _ _ rfl rfl
   have i:=c.o.chg.trans I;obtain⟨ah,ai,aj⟩:=U.o o (Qi d);have z:=hZ (eF w N B p v a k o _ ys wr.heap.size S (c.o.kept2 I) ap.o d (HL.o.kept i (by simp)) (aq.o.kept i) ah ai aj (L.kept i) (Az.kept i ao) ab z1k);rw[u]at z;clear u I ab i ah ai aj h an L ao d;obtain⟨m,hm⟩:∃q,q=o.steps.length:=⟨_,rfl⟩;rw[<-hm]at z c3;clear hm;go_wp2_with((go_at_call 26;refine z.o.mono ?_;rintro e w3 (⟨rfl,C⟩|⟨q,hq,rfl,am,C⟩);all_goals(have l:=hZ C;clear C);all_goals(try (have A:=hZ am;clear am;have ax:((q:Int) !=0)=true:=(by rw[bne_iff_ne];omega)))))
   .go_roundw
    case rel=>exact⟨k+1,by omega,by go_num,l.o⟩
    case measure=>simp[intOf];omega
   .go_ret2;rw[A.o];exact⟨rfl,l.o⟩
  .obtain rfl:k=n:=by omega
   have J:=c.o;rw[f.o]at J;obtain⟨af,⟨bs,ak⟩,al,X⟩:=eK J U.o;have W:=hZ (ZC af ak);have A:=hZ al;clear J af ak al;unfold Jn at W;go_wp2_with((go_at_call 24;refine W.o.mono ?_;rintro e w3 ⟨F,tb,rfl,t1,t2,t3,t4,t5⟩;have H1:=hZ t1;have H2:=hZ t2;have l:=hZ t3;have H4:=hZ t4;have H5:=hZ t5;clear t1 t2 t3 t4 t5));go_ret2;rw[A.o];have hz:=c.o.chg.size;exact⟨F,tb,rfl,H1.o,H2.o,c.o.chg.trans l.o,fun b hb=>Q7 hz (H4.o b hb),Q7 hz H5.o⟩
theorem Cw{e:Array Oper}{o:Oper}{a:Act}{b:Bool}{s:Tmp}(g:o.guard=nM (i,b))(d:Es e i=nM s)(c:a.tmps.getD s undef= .bool b):Region.wanted o (yielded e a.tmps)=true:=by
 unfold Region.wanted;rw[g]
 have f:a.tmps[s]? =nM (.bool b):=by
  rw[Qp]at c;cases h:a.tmps[s]? with
  |none=>rw[h]at c;cases c
  |some x=>rw[h]at c;exact congrArg _ c
 unfold Es at d;simp only[yielded,d,Option.bind_some,f,beq_self_eq_true]
theorem Af.backW{t:Tr}(h:Af w' F t v)(d:Chg w w' [])(a:∀k,F k->k<w.heap.size):Af w F t v:=
 h.kept (F:=F) (fun b o c=>((d.cell (p:=⟨b,o,nN⟩) (a b c) Zh)).symm) (fun _ h=>h) _ _
theorem Ax.backW{a:Vl}(h:Ax w' F a vs)(e:Chg w w' [])(c:∀k,F k->k<w.heap.size):Ax w F a vs:=
 h.kept (F:=F) (fun b o d=>((e.cell (p:=⟨b,o,nN⟩) (c b d) Zh)).symm) (fun _ h=>h)
theorem Ak.backW(h:Ak w' F l vs)(d:Chg w w' [])(a:∀k,F k->k<w.heap.size):Ak w F l vs:=
 Ak.kept (F:=F) (fun b o c=>((d.cell (p:=⟨b,o,nN⟩) (a b c) Zh)).symm) (fun _ h=>h) _ _ h
theorem RX(F:Nat->Prop)(t:Tr)(v:Vl)(w:Wl)(b:Af w F t v)(c:∀k,F k->k<w.heap.size):
  Cl prog 50 #[nA #[v]] w fun e w'=>e= nR (nI nX (Hj t))/\Chg w w' []:=by
 obtain⟨m,x,rfl⟩:=b.iface;have a:Chg w (w.alloc (nC #[nF m x] 88)) []:=(Chg.refl w []).alloc _;obtain⟨f,args,g,d⟩:=Sg t _ (Af.kept (a.keepsF c) (fun _ h=>h) _ _ b);have l:=hZ g;have j:=hZ d;clear b c a g d;go_enter func50,ntmps50;go_wp2_with(refine Am rfl _ _ _ rfl _ rfl f args l.o _ j.o ?_;rintro e n ⟨rfl,a⟩;refine⟨_,rfl, ?_⟩;have i:=hZ a;clear a);go_ret;exact⟨rfl,((Chg.refl w []).alloc _).trans i.o⟩
theorem D3:(prog.info? 88).map (·.size)=nM 1:=Yb
def J3(t:Tr)(v u:Vl)(F G:Nat->Prop)(w:Wl)(j:Nat)(y:Vl):Prop:=match j with
 |0=>y= nA #[v]
 |1=>y= nI nX (Hj t)
 |2=>y= nA #[u]
 |3=>y= nI nX (Hj t)
 |4=>y= .bool false
 |5=>y= .bool false
 |6=>y= nA #[v]
 |7=>y= nI nX (Ab t).length
 |8=>y= nA #[u]
 |9=>y= nI nX (Ab t).length
 |10=>y= .bool false
 |11=>y= .bool false
 |12=>y= .bool false
 |13=>y= nA #[v]
 |14=>Ax w F y (Ad (JN t))
 |15=>y= nA #[u]
 |16=>Ax w G y (Ad (JN t))
 |17=>y= .bool true
 |18=>y= .bool false
 |_=>y= .bool false
def Zw(t:Tr)(v u:Vl)(F G:Nat->Prop)(w:Wl)(j:Nat)(y:Vl):Prop:=match j with
 |0=>y= nA #[v]
 |1=>∃vs,Ax w F y vs/\Ak w F (Ab t) vs
 |2=>y= nA #[u]
 |3=>∃vs,Ax w G y vs/\Ak w G (Ab t) vs
 |4=>∃vs,Ax w F y vs/\Ak w F (Ab t) vs
 |_=>∃vs,Ax w G y vs/\Ak w G (Ab t) vs
def Np(v u:Vl)(c d:Vl)(k:Nat)(a b:Addr)(j:Nat)(y:Vl):Prop:=match j with
 |0=>y=c
 |1=>y= nI nX k
 |2=>y= nP (nM a)
 |3=>y=v
 |4=>y= nA #[v]
 |5=>y=d
 |6=>y= nI nX k
 |7=>y= nP (nM b)
 |8=>y=u
 |9=>y= nA #[u]
 |10=>y= .bool true
 |_=>y= .bool false
theorem O4(a b:Nat)(w:Wl):(binOp .eql 86 (nF 164 (.float .f64 a)) (nF 164 (.float .f64 b))).run prog w= .ok (.bool (FloatKind.f64.format.order a b==nM .eq)) w:=Yb
theorem Nt(a b:BY)(w:Wl):(binOp .eql 86 (nF 166 (nG a)) (nF 166 (nG b))).run prog w= .ok (.bool (a==b)) w:=Yb
theorem z0y(h:p:=by have y:=B.o.kept T.o;have z:=C.o.kept T.o;have c1:=y.cell 0;have U:=z.cell 0;simp only[Qa]at c1 U;clear B C J y z;go_wp2_with fail;go_ret;exact⟨rfl,by exact cg ad.o⟩):p:=h
theorem z1a(h:p:=by exact d _ _ Zh (c.put (by simp[J3]) cR)):p:=h
theorem z1b(h:p:=by go_simp;exact d _ _ Zh (c.put (by simp[Np]) cR)):p:=h
theorem z1c(h:p:=by simp[Region.wanted]):p:=h
theorem z1d(h:p:=by rintro e w1 ⟨rfl,o⟩;exact d _ _ Zh (c.put rfl o)):p:=h
theorem z1e(h:p:=by refine Bd _ _ rfl _ m 88 _ (B.o.kept c.1) _ underlying88 rfl D3 ?_;exact z1a):p:=h
theorem z1f(h:p:=by refine Bd _ _ rfl _ m 88 _ (C.o.kept c.1) _ underlying88 rfl D3 ?_;exact z1a):p:=h
theorem z1h(h:p:=by rw[Qr z1c];go_simp;exact z1a):p:=h
theorem z1i(h:p:=by exact⟨Chg.refl _ _,fun _ e=>by cases e⟩):p:=h
theorem XF:∀(k:Nat) (t:Tr) (F G:Nat->Prop) (v u:Vl) (w:Wl),(Ag t).nodes<=k->(Ag t).nodes<=65536->Av t->Af w F t v->Af w G t u->(∀b,F b->b<w.heap.size)->(∀b,G b->b<w.heap.size)->
  Cl prog 32 #[nA #[v],nA #[u]] w (BU true w):=by
 intro k;induction k with
 |zero=>intro t _ _ _ _ _ h;have:=Cv t;omega
 |succ k0 ih=>
 intro t F G v u w r hn J p L j hG
 have aI:∀x vx vy w',x∈Ab t->Af w' F x vx->Af w' G x vy->(∀b,F b->b<w'.heap.size)->(∀b,G b->b<w'.heap.size)->Cl prog 32 #[nA #[vx],nA #[vy]] w' (BU true w'):=fun x vx vy w' hx o h2 h3 h4=>by
  obtain⟨i,hi⟩:=List.mem_iff_getElem?.1 hx;have:=CO hi;exact ih x F G vx vy w' Zj Zj (J.items x hx) o h2 h3 h4
 have IH:=hZ aI;have W:=hZ p;have X:=hZ L;have H:=hZ j;have I:=hZ hG;have a2:=hZ hn
 have aJ:(JN t).length<=4294967296:=by
  cases t with
  |obj ks l=>simp only[Av]at J;exact Q7 J.1.many Zj
  |_=>simp[JN]
 have ab:=hZ aJ;obtain⟨N,O,rfl⟩:=p.iface;obtain⟨Z,x2,rfl⟩:=L.iface;have aZ:=hZ J;clear aI ih r hn J p L j hG aJ;go_enter func32,ntmps32;go_wp2_with fail;obtain⟨V,af⟩:=Ue (World.drew ((w.alloc (nC #[nF N O] 88)).alloc (nC #[nF Z x2] 88)));have ax:=hZ af;have A:Hid (Chg w V []):=by rw[af];exact hZ ((((Chg.refl w []).alloc _).alloc _).drew)
 have B:Hid (Ac V w.heap.size [nF N O] 88):=by rw[af];exact hZ (((Ac.new w [nF N O] _).alloc _).drew)
 have C:Hid (Ac V (w.heap.size+1) [nF Z x2] 88):=by rw[af];exact hZ ((BD _ _ _ _ _ rfl Zh).drew)
 have am:=UD (∀b,F b->b<V.heap.size) fun b Q=>Q6 (H.o b Q) A.o.size;have an:=UD (∀b,G b->b<V.heap.size) fun b Q=>Q6 (I.o b Q) A.o.size;clear af;refine wp_region_any Yb ?_;change wpAny _ _ _ _ _ _ _ (World.drew _);rw[<-ax.o];refine Dg _ (PX (J3 t (nF N O) (nF Z x2) F G V) V) Yb ?_ ?_ _ ?_
 .intro ii op a M dd R j aP f aD c K d;match ii,R with
  |0,rfl=>
   have m:a.tmps.getD 2 undef= nP (nM ⟨w.heap.size,0,nN⟩):=j.at 2 Yb;rw[Qr z1c];exact z1e
  |1,rfl=>
   have S:rS a 10= nA #[nF N O]:=c.2 0 (f ⟨0,.data⟩ Zh rfl);rw[Qr z1c];go_simp;go_at_call 50;refine(RX F t _ M (Af.kept ((A.o.trans c.1).keepsF H.o) (fun _ h=>h) _ _ W.o) (fun k r=>Q6 (H.o k r) (A.o.trans c.1).size)).mono ?_;exact z1d
  |2,rfl=>
   have m:a.tmps.getD 3 undef= nP (nM ⟨w.heap.size+1,0,nN⟩):=j.at 3 Yb;rw[Qr z1c];exact z1f
  |3,rfl=>
   have S:rS a 12= nA #[nF Z x2]:=c.2 2 (f ⟨2,.data⟩ Zh rfl);rw[Qr z1c];go_simp;go_at_call 50;refine(RX G t _ M (Af.kept ((A.o.trans c.1).keepsF I.o) (fun _ h=>h) _ _ X.o) (fun k r=>Q6 (I.o k r) (A.o.trans c.1).size)).mono ?_;exact z1d
  |4,rfl=>
   have bm:rS a 11= nI nX (Hj t):=c.2 1 (f ⟨1,.data⟩ Zh rfl);have bn:rS a 13= nI nX (Hj t):=c.2 3 (f ⟨3,.data⟩ Zh rfl);exact z1h
  |5,rfl=>
   have bo:rS a 14= .bool false:=c.2 4 (f ⟨4,.data⟩ Zh rfl);exact z1h
  |6,rfl=>
   have m:a.tmps.getD 2 undef= nP (nM ⟨w.heap.size,0,nN⟩):=j.at 2 Yb;rw[Qr (Cw rfl ZN (c.2 5 (f ⟨5,.guard⟩ Zh rfl)))];exact z1e
  |7,rfl=>
   have S:rS a 16= nA #[nF N O]:=c.2 6 (f ⟨6,.data⟩ Zh rfl);rw[Qr (Cw rfl ZN (c.2 5 (f ⟨5,.guard⟩ Zh rfl)))];go_simp;go_at_call 51;refine(Up F t _ M (Af.kept ((A.o.trans c.1).keepsF H.o) (fun _ h=>h) _ _ W.o) (fun k r=>Q6 (H.o k r) (A.o.trans c.1).size)).mono ?_;exact z1d
  |8,rfl=>
   have m:a.tmps.getD 3 undef= nP (nM ⟨w.heap.size+1,0,nN⟩):=j.at 3 Yb;rw[Qr (Cw rfl ZN (c.2 5 (f ⟨5,.guard⟩ Zh rfl)))];exact z1f
  |9,rfl=>
   have S:rS a 18= nA #[nF Z x2]:=c.2 8 (f ⟨8,.data⟩ Zh rfl);rw[Qr (Cw rfl ZN (c.2 5 (f ⟨5,.guard⟩ Zh rfl)))];go_simp;go_at_call 51;refine(Up G t _ M (Af.kept ((A.o.trans c.1).keepsF I.o) (fun _ h=>h) _ _ X.o) (fun k r=>Q6 (I.o k r) (A.o.trans c.1).size)).mono ?_;exact z1d
  |10,rfl=>
   have bq:rS a 17= nI nX (Ab t).length:=c.2 7 (f ⟨7,.data⟩ Zh rfl);have br:rS a 19= nI nX (Ab t).length:=c.2 9 (f ⟨9,.data⟩ Zh rfl);rw[Qr (Cw rfl ZN (c.2 5 (f ⟨5,.guard⟩ Zh rfl)))];go_simp;exact z1a
  |11,rfl=>
   have bp:rS a 15= .bool false:=c.2 5 (f ⟨5,.data⟩ Zh rfl);have bs:rS a 20= .bool false:=c.2 10 (f ⟨10,.data⟩ Zh rfl);exact z1h
  |12,rfl=>
   have bt:rS a 21= .bool false:=c.2 11 (f ⟨11,.data⟩ Zh rfl);exact z1h
  |13,rfl=>
   have m:a.tmps.getD 2 undef= nP (nM ⟨w.heap.size,0,nN⟩):=j.at 2 Yb;rw[Qr (Cw rfl ZN (c.2 12 (f ⟨12,.guard⟩ Zh rfl)))];exact z1e
  |14,rfl=>
   have S:rS a 23= nA #[nF N O]:=c.2 13 (f ⟨13,.data⟩ Zh rfl);rw[Qr (Cw rfl ZN (c.2 12 (f ⟨12,.guard⟩ Zh rfl)))];go_simp;go_at_call 52;refine(RY F t _ M (Af.kept ((A.o.trans c.1).keepsF H.o) (fun _ h=>h) _ _ W.o) (fun k r=>Q6 (H.o k r) (A.o.trans c.1).size)).mono ?_;rintro e w1 ⟨sk,rfl,h0,o⟩;exact d _ _ Zh (c.put (h0.backW (c.1.trans o) am.o) o)
  |15,rfl=>
   have m:a.tmps.getD 3 undef= nP (nM ⟨w.heap.size+1,0,nN⟩):=j.at 3 Yb;rw[Qr (Cw rfl ZN (c.2 12 (f ⟨12,.guard⟩ Zh rfl)))];exact z1f
  |16,rfl=>
   have S:rS a 25= nA #[nF Z x2]:=c.2 15 (f ⟨15,.data⟩ Zh rfl);rw[Qr (Cw rfl ZN (c.2 12 (f ⟨12,.guard⟩ Zh rfl)))];go_simp;go_at_call 52;refine(RY G t _ M (Af.kept ((A.o.trans c.1).keepsF I.o) (fun _ h=>h) _ _ X.o) (fun k r=>Q6 (I.o k r) (A.o.trans c.1).size)).mono ?_;rintro e w1 ⟨sk,rfl,h0,o⟩;exact d _ _ Zh (c.put (h0.backW (c.1.trans o) an.o) o)
  |17,rfl=>
   have a8:=f ⟨14,.data⟩ Zh rfl;have a9:=f ⟨16,.data⟩ Zh rfl;have ay:Ax V F (a.tmps.getD 24 undef) (Ad (JN t)):=c.2 14 a8;have az:Ax V G (a.tmps.getD 26 undef) (Ad (JN t)):=c.2 16 a9;obtain⟨s1,ba⟩:∃s,a.tmps.getD 24 undef=s:=⟨_,rfl⟩;obtain⟨s2,bb⟩:∃s,a.tmps.getD 26 undef=s:=⟨_,rfl⟩;rw[ba]at ay;rw[bb]at az;have HQ:=Ix (JN t) (JN t) s1 s2 M (ay.kept (c.1.keepsF am.o) (fun _ h=>h)) (az.kept (c.1.keepsF an.o) (fun _ h=>h)) ab.o ab.o;rw[decide_eq_true rfl]at HQ;rw[Qr (Cw rfl ZN (c.2 12 (f ⟨12,.guard⟩ Zh rfl)))];go_simp;go_at_call 41;refine HQ.mono ?_;rintro e w1 ⟨rfl,q,rfl⟩;exact d _ _ Zh (c.put rfl ((Chg.refl M []).drewN q))
  |18,rfl=>
   have bv:rS a 27= .bool true:=c.2 17 (f ⟨17,.data⟩ Zh rfl);rw[Qr (Cw rfl ZN (c.2 12 (f ⟨12,.guard⟩ Zh rfl)))];go_simp;exact z1a
  |19,rfl=>
   have bu:rS a 22= .bool false:=c.2 12 (f ⟨12,.data⟩ Zh rfl);have bw:rS a 28= .bool false:=c.2 18 (f ⟨18,.data⟩ Zh rfl);exact z1h
  |_+20,R=>exact absurd R Zh
 .intro a wR dd j Y c;have aA:a.tmps.getD 29 undef= .bool false:=c.2 19 (Y 19 ZM);have T:=UD (Chg V wR []) c.1;have ad:=UD (Chg w wR []) (A.o.trans c.1);clear c Y ax;have p:=W.o;have L:=X.o;have J:=aZ.o;obtain⟨fu,hu,rfl⟩:=j.fin2 [10,11,12,13,14,15,16,17,18,19,20,21,22,23,24,25,26,27,28,29] Yb;have aT:=(hu 29).symm.trans aA;clear j hu aA;rw[aT];clear aT;by_cases al:AX t=true
  .cases t with
   |null=>
     clear IH ab H I W X;simp only[Af]at p L;injection p with D P
     injection L with e3 e4
     subst D;subst P;subst e3;subst e4
     skip
     have a0:∀(w:Wl),(Instr.typeAssert (nF 159 (nA #[])) 86 141 true).run prog w= .ok (nT #[nP nN,.bool false]) w:=fun _=>Yb;have a1:∀(w:Wl),(Instr.typeAssert (nF 159 (nA #[])) 86 142 true).run prog w= .ok (nT #[nP nN,.bool false]) w:=fun _=>Yb;have q:∀(w:Wl),(binOp .eql 86 (nF 159 (nA #[])) (nF 159 (nA #[]))).run prog w= .ok (.bool true) w:=fun w=>Yb;exact z0y
   |flag b=>
     clear IH ab H I W X;simp only[Af]at p L;injection p with D P
     injection L with e3 e4
     subst D;subst P;subst e3;subst e4
     skip
     have a0:∀(w:Wl),(Instr.typeAssert (nF 160 (.bool b)) 86 141 true).run prog w= .ok (nT #[nP nN,.bool false]) w:=fun _=>Yb;have a1:∀(w:Wl),(Instr.typeAssert (nF 160 (.bool b)) 86 142 true).run prog w= .ok (nT #[nP nN,.bool false]) w:=fun _=>Yb;have q:∀(w:Wl),(binOp .eql 86 (nF 160 (.bool b)) (nF 160 (.bool b))).run prog w= .ok (.bool true) w:=fun w=>by cases b<;>kernel_rfl
     exact z0y
   |num n=>
     clear IH ab H I W X;simp only[Af]at p L;injection p with D P
     injection L with e3 e4
     subst D;subst P;subst e3;subst e4;have bi:=Rn (by simpa only[Av]using J) (by simpa only[Av]using J:Hs n);have a0:∀(w:Wl),(Instr.typeAssert (nF 164 (.float .f64 n)) 86 141 true).run prog w= .ok (nT #[nP nN,.bool false]) w:=fun _=>Yb;have a1:∀(w:Wl),(Instr.typeAssert (nF 164 (.float .f64 n)) 86 142 true).run prog w= .ok (nT #[nP nN,.bool false]) w:=fun _=>Yb;have q:∀(w:Wl),(binOp .eql 86 (nF 164 (.float .f64 n)) (nF 164 (.float .f64 n))).run prog w= .ok (.bool true) w:=fun w=>by rw[O4,bi,decide_eq_true rfl]
     exact z0y
   |text s=>
     clear IH ab H I W X;simp only[Af]at p L;injection p with D P
     injection L with e3 e4
     subst D;subst P;subst e3;subst e4
     skip
     have a0:∀(w:Wl),(Instr.typeAssert (nF 166 (nG s)) 86 141 true).run prog w= .ok (nT #[nP nN,.bool false]) w:=fun _=>Yb;have a1:∀(w:Wl),(Instr.typeAssert (nF 166 (nG s)) 86 142 true).run prog w= .ok (nT #[nP nN,.bool false]) w:=fun _=>Yb;have q:∀(w:Wl),(binOp .eql 86 (nF 166 (nG s)) (nF 166 (nG s))).run prog w= .ok (.bool true) w:=fun w=>by rw[Nt,P0,decide_eq_true rfl]
     exact z0y
   |list l=>simp[AX]at al
   |obj ks l=>simp[AX]at al
  .obtain⟨p0,o0,p1,a0,a1⟩:∃p0 o0 p1,(∀w,(Instr.typeAssert (nF N O) 86 141 true).run prog w= .ok (nT #[p0,.bool o0]) w)/\(∀w,(Instr.typeAssert (nF N O) 86 142 true).run prog w= .ok (nT #[p1,.bool (!o0)]) w):=by
    cases t with
    |list l=>
     simp only[Af]at p;obtain⟨b,sl,vs,D,_⟩:=p;injection D with D P
     subst D;subst P;exact⟨nP (nM ⟨b,0,nN⟩),true,nP nN,fun _=>Yb,fun _=>Yb⟩
    |obj ks l=>
     simp only[Af]at p;obtain⟨b,sk,sl,vs,D,_⟩:=p;injection D with D P
     subst D;subst P;exact⟨nP nN,false,nP (nM ⟨b,0,nN⟩),fun _=>Yb,fun _=>Yb⟩
    |_=>simp[AX]at al
   have y:=B.o.kept T.o;have z:=C.o.kept T.o;have c1:=y.cell 0;have U:=z.cell 0;simp only[Qa]at c1 U;have aW:=hZ y;have aX:=hZ z;clear B C J y z p L al ab am an;obtain⟨E,ag⟩:=Ue (World.drew wR);have a6:=hZ ag;have aa:Hid (Chg w E []):=by rw[ag];exact hZ ad.o.drew
   have B:Hid (Ac E w.heap.size [nF N O] 88):=by rw[ag];exact hZ aW.o.drew
   have C:Hid (Ac E (w.heap.size+1) [nF Z x2] 88):=by rw[ag];exact hZ aX.o.drew
   have ai:=UD (∀b,F b->b<E.heap.size) fun b Q=>Q6 (H.o b Q) aa.o.size;have aj:=UD (∀b,G b->b<E.heap.size) fun b Q=>Q6 (I.o b Q) aa.o.size;clear ag;cases o0
   all_goals
    simp only[Bool.not_true,Bool.not_false]at a1;go_wp2_with fail;refine wp_region_any Yb ?_;change wpAny _ _ _ _ _ _ _ (World.drew _);rw[<-a6.o];refine Dg _ (PX (Zw t (nF N O) (nF Z x2) F G E) E) Yb ?_ ?_ _ ?_
    .intro ii op a M dd R j aP f aD c K d;match ii,R with
     |0,rfl=>
      have m:a.tmps.getD 2 undef= nP (nM ⟨w.heap.size,0,nN⟩):=j.at 2 Yb;rw[Qr z1c];refine Bd _ _ rfl _ m 88 _ (B.o.kept c.1) _ underlying88 rfl D3 ?_;exact d _ _ Zh (c.put (by simp[Zw]) cR)
     |1,rfl=>
      have S:rS a 43= nA #[nF N O]:=c.2 0 (f ⟨0,.data⟩ Zh rfl);rw[Qr z1c];go_simp;go_at_call 53;refine(ID F t _ M (Af.kept ((aa.o.trans c.1).keepsF H.o) (fun _ h=>h) _ _ W.o) (fun k r=>Q6 (H.o k r) (aa.o.trans c.1).size)).mono ?_;rintro e w1 ⟨sl,vs,rfl,h0,h2,o⟩;exact d _ _ Zh (c.put ⟨vs,h0.backW (c.1.trans o) ai.o,h2.backW (c.1.trans o) ai.o⟩ o)
     |2,rfl=>
      have m:a.tmps.getD 3 undef= nP (nM ⟨w.heap.size+1,0,nN⟩):=j.at 3 Yb;rw[Qr z1c];refine Bd _ _ rfl _ m 88 _ (C.o.kept c.1) _ underlying88 rfl D3 ?_;exact d _ _ Zh (c.put (by simp[Zw]) cR)
     |3,rfl=>
      have S:rS a 45= nA #[nF Z x2]:=c.2 2 (f ⟨2,.data⟩ Zh rfl);rw[Qr z1c];go_simp;go_at_call 53;refine(ID G t _ M (Af.kept ((aa.o.trans c.1).keepsF I.o) (fun _ h=>h) _ _ X.o) (fun k r=>Q6 (I.o k r) (aa.o.trans c.1).size)).mono ?_;rintro e w1 ⟨sl,vs,rfl,h0,h2,o⟩;exact d _ _ Zh (c.put ⟨vs,h0.backW (c.1.trans o) aj.o,h2.backW (c.1.trans o) aj.o⟩ o)
     |4,rfl=>
      have g:=c.2 1 (f ⟨1,.data⟩ Zh rfl);obtain⟨s1,S⟩:∃s,a.tmps.getD 44 undef=s:=⟨_,rfl⟩;change∃vs,Ax _ _ (a.tmps.getD 44 undef) vs/\_ at g;rw[S]at g;go_simp;exact d _ _ Zh (c.put g cR)
     |5,rfl=>
      have g:=c.2 3 (f ⟨3,.data⟩ Zh rfl);obtain⟨s1,S⟩:∃s,a.tmps.getD 46 undef=s:=⟨_,rfl⟩;change∃vs,Ax _ _ (a.tmps.getD 46 undef) vs/\_ at g;rw[S]at g;go_simp;exact d _ _ Zh (c.put g cR)
     |_+6,R=>exact absurd R Zh
    .intro a wS dd j Y c;have g7:∃vs,Ax E F (a.tmps.getD 7 undef) vs/\Ak E F (Ab t) vs:=c.2 4 (Y 4 ZM);have g8:∃vs,Ax E G (a.tmps.getD 8 undef) vs/\Ak E G (Ab t) vs:=c.2 5 (Y 5 ZM);have a3:=UD (Chg E wS []) c.1;clear c Y;have ae:=j.form' [43,44,45,46,7,8] Yb;have aH:=j.defers;obtain⟨tm,df⟩:=a;clear j;dsimp only at ae aH g7 g8;simp only[List.foldl_cons,List.foldl_nil]at ae;obtain⟨u43,aK⟩:=Ue (tm.getD 43 undef);obtain⟨u44,aL⟩:=Ue (tm.getD 44 undef);obtain⟨u45,aM⟩:=Ue (tm.getD 45 undef);obtain⟨u46,aN⟩:=Ue (tm.getD 46 undef);obtain⟨u7,aq⟩:=Ue (tm.getD 7 undef);obtain⟨u8,ar⟩:=Ue (tm.getD 8 undef);rw[<-aK,<-aL,<-aM,<-aN,<-aq,<-ar]at ae;rw[<-aq]at g7;rw[<-ar]at g8;clear aK aL aM aN aq ar;simp only[List.setIfInBounds_toArray,List.set_cons_zero,List.set_cons_succ]at ae;subst ae;subst aH;obtain⟨vs,g7,k7⟩:=g7;obtain⟨us,g8,k8⟩:=g8;obtain⟨ca,cc,rfl,aC⟩:=g7.cell;obtain⟨da,dc,rfl,aG⟩:=g8.cell;have aS:=k7.length;have aO:=k8.length;have K7:=hZ k7;have K8:=hZ k8;have aV:=hZ aC;have aY:=hZ aG;have bl:=hZ aO;have a5:=hZ aS;have bh:vs.length<=65536:=by have:=Bj t;have:=a2.o;omega
     rw[show us.length=vs.length from by omega];obtain⟨n,hn⟩:=Ue vs.length;have HN:=hZ hn;rw[<-hn]at bh|-;clear g7 g8 k7 k8 aC aG aS aO hn a0 a1 c1 U;go_wp2_with fail;go_loopw [49] (fun av wr=>∃i:Nat,i<=n/\av= nI nX i/\Chg E wr []) (fun av _=>n-(intOf av).toNat)
     case atStart=>exact⟨0,Zj,rfl,a3.o⟩
     case round=>
      obtain⟨i,hi,rfl,hg⟩:=hrel;have aw:=hZ hg;clear hg;by_cases bJ:i<n
      .obtain⟨x,hx⟩:∃x,(Ab t)[i]? =nM x:=⟨_,Q9 (by have:=a5.o;have:=HN.o;omega)⟩;obtain⟨va,aQ,ao⟩:=K7.o.get i x hx;obtain⟨vb,aR,ap⟩:=K8.o.get i x hx;obtain⟨b1,o1,rfl,be,aE⟩:=aV.o i va aQ;obtain⟨b2,o2,rfl,bf,aF⟩:=aY.o i vb aR;obtain⟨ta,xa,rfl⟩:=ao.iface;obtain⟨tb,xb,rfl⟩:=ap.iface;obtain⟨w6,au⟩:=Ue (World.drew wr);have a7:=hZ au;have ah:Hid (Chg E w6 []):=by rw[au];exact hZ aw.o.drew
       have C1:=UD (w6.cell? ⟨b1,o1+i,nN⟩=nM (nF ta xa)) (ah.o.keeps aE);have C2:=UD (w6.cell? ⟨b2,o2+i,nN⟩=nM (nF tb xb)) (ah.o.keeps aF)
       have HC:=UD (∀wx,Chg w6 wx []->Cl prog 32 #[nA #[nF ta xa],nA #[nF tb xb]] wx (BU true wx)) fun wx bj=>by
        have ak:=ah.o.trans bj;exact IH.o x _ _ wx (Qi hx) (Af.kept (ak.keepsF ai.o) (fun _ h=>h) _ _ ao) (Af.kept (ak.keepsF aj.o) (fun _ h=>h) _ _ ap) (fun b Q=>Q6 (ai.o b Q) ak.size) (fun b Q=>Q6 (aj.o b Q) ak.size)
       clear au hx aQ aR ao ap be bf aE aF;go_wp2_with fail;refine wp_region_any Yb ?_;change wpAny _ _ _ _ _ _ _ (World.drew _);rw[<-a7.o];refine Dg _ (PX (Np (nF ta xa) (nF tb xb) (nS (nM ⟨b1,o1,nN⟩) n cc) (nS (nM ⟨b2,o2,nN⟩) n dc) i ⟨b1,o1+i,nN⟩ ⟨b2,o2+i,nN⟩) w6) Yb ?_ ?_ _ ?_
       .intro ii op a M dd R j aP f aD c K d;have m:=fun k=>f ⟨k,.data⟩;match ii,R with
        |0,rfl=>
         have h7:rS a 7= nS (nM ⟨b1,o1,nN⟩) n cc:=j.at 7 Yb;exact z1b
        |1,rfl=>
         have h9:rS a 9= nI nX i:=j.at 9 Yb;exact z1b
        |2,rfl=>
         have bx:rS a 52= nS (nM ⟨b1,o1,nN⟩) n cc:=c.2 0 (m 0 Zh rfl);have bz:rS a 53= nI nX i:=c.2 1 (m 1 Zh rfl);exact z1b
        |3,rfl=>
         have bA:rS a 54= nP (nM ⟨b1,o1+i,nN⟩):=c.2 2 (m 2 Zh rfl);have bg:=c.1.keeps C1.o;exact z1b
        |4,rfl=>
         have bc:a.tmps.getD 55 undef= nF ta xa:=c.2 3 (m 3 Zh rfl);have bB:a.tmps[55]?.getD undef= nF ta xa:=by rw[<-Qp];exact bc
         go_simp;exact d (nA #[nF ta xa]) _ Zh (c.put rfl cR)
        |5,rfl=>
         have h8:rS a 8= nS (nM ⟨b2,o2,nN⟩) n dc:=j.at 8 Yb;exact z1b
        |6,rfl=>
         have h9:rS a 9= nI nX i:=j.at 9 Yb;exact z1b
        |7,rfl=>
         have bD:rS a 57= nS (nM ⟨b2,o2,nN⟩) n dc:=c.2 5 (m 5 Zh rfl);have bE:rS a 58= nI nX i:=c.2 6 (m 6 Zh rfl);exact z1b
        |8,rfl=>
         have bF:rS a 59= nP (nM ⟨b2,o2+i,nN⟩):=c.2 7 (m 7 Zh rfl);have bg:=c.1.keeps C2.o;exact z1b
        |9,rfl=>
         have bd:a.tmps.getD 60 undef= nF tb xb:=c.2 8 (m 8 Zh rfl);have bG:a.tmps[60]?.getD undef= nF tb xb:=by rw[<-Qp];exact bd
         go_simp;exact d (nA #[nF tb xb]) _ Zh (c.put rfl cR)
        |10,rfl=>
         have bC:rS a 56= nA #[nF ta xa]:=c.2 4 (m 4 Zh rfl);have bH:rS a 61= nA #[nF tb xb]:=c.2 9 (m 9 Zh rfl);go_simp;go_at_call 32;refine(HC.o M c.1).mono ?_;exact z1d
        |11,rfl=>
         have bI:rS a 62= .bool true:=c.2 10 (m 10 Zh rfl);exact z1b
        |_+12,R=>exact absurd R Zh
       .intro a bk dd j Y c;have aB:a.tmps.getD 63 undef= .bool false:=c.2 11 (Y 11 ZM);have a4:=UD (Chg E bk []) (ah.o.trans c.1);clear c Y;obtain⟨fu,hu,rfl⟩:=j.fin2 [52,53,54,55,56,57,58,59,60,61,62,63] Yb;have aU:=(hu 63).symm.trans aB;clear j hu aB;rw[aU];clear aU;go_wp2_with fail;go_roundw
        case rel=>exact⟨i+1,Zj,by go_num,a4.o⟩
        case measure=>simp[intOf];omega
       .exact z1i
      .go_wp2_with fail;go_ret;exact⟨rfl,aa.o.trans aw.o⟩
    .exact z1i
 .exact z1i
theorem OL(F G:Nat->Prop)(l f:Nat)(t:Tr)(w:Wl)(C:CG w F l t)(D:CG w G f t)(g:∀b,F b->b<w.heap.size)(i:∀b,G b->b<w.heap.size)(j:Bt t):
  Cl prog 13 #[nP (nM ⟨l,0,nN⟩),nP (nM ⟨f,0,nN⟩)] w (BU true w):=by
 obtain⟨v,x,hi,d⟩:=C;obtain⟨u,s,k,r⟩:=D;have y:=hZ (IG F l v w x hi.iface d);have z:=UD (∀a,Chg w a []->Cl prog 31 #[nP (nM ⟨f,0,nN⟩)] a fun e w'=>e= nR (nA #[u])/\Chg a w' []) fun a c=>IG G f u a (c.keeps s) k.iface (Q6 r c.size)
 have A:=UD (∀a,Chg w a []->Cl prog 32 #[nA #[v],nA #[u]] a (BU true a)) fun a c=>
  XF _ t F G v u a (Q8 _) (Ar j.fits).1 j.good (Af.kept (c.keepsF g) (fun _ h=>h) _ _ hi) (Af.kept (c.keepsF i) (fun _ h=>h) _ _ k) (fun b d=>Q6 (g b d) c.size) (fun b d=>Q6 (i b d) c.size)
 clear x s hi k d r g i j;go_enter func13,ntmps13;go_wp2_with fail;refine y.o.mono ?_;rintro e E ⟨rfl,o⟩;have m:=hZ o;clear o;go_wp2_with fail;refine(z.o E m.o).mono ?_;rintro e w2 ⟨rfl,p⟩;have n:=hZ (m.o.trans p);clear p;go_wp2_with fail;refine(A.o w2 n.o).mono ?_;rintro e H ⟨rfl,q⟩;have B:=hZ (n.o.trans q);clear q;go_wp2_with fail;go_ret;exact⟨rfl,B.o⟩
end
end Go.Proofs.YtamgbmcchhmojaaGreatDoor

/- Part 27 of the proof of coreBase. -/
import Derived.Test.YtkfnkppdhcaeoaaGreatDoorM26
set_option maxRecDepth 100000
set_option maxHeartbeats 32000000
set_option linter.all false
namespace Go.Proofs.YtkfnkppdhcaeoaaGreatDoor
open Go renaming Calls->Cl,TypeId->Ti,Value->Vl,World->Wl
open Go.Value renaming agg->nA,iface->nF,int->nI,pointer->nP,slice->nS,string->nG,tuple->nT
open Go.IntKind renaming i64->nX
open Go.Ending renaming returned->nR
open Go.Obj renaming cells->nC
open Option renaming none->nN,some->nM
section
open _root_.Go.Proofs.Tryz
open Go Go.Shelf Go.RowKit Go.Lib Tree Ptr
theorem Cc.item{w:Wl}{l:List Bq}{xs:List Vl}{b o n c:Nat}(k:As w (nS (nM ⟨b,o,nN⟩) n c) 4 l.length xs)(q:0<l.length)(m:Cc w l xs){i:Nat}{s:Bq}(r:l[i]? =nM s):
  ∃sv ys,As w sv 6 s.steps.length ys/\Az w s.steps ys/\∀j v,(BJ s sv)[j]? =nM v->w.cell? ⟨b,o+i*4+j,nN⟩=nM v:=by
 obtain⟨sv,ys,f,g,h⟩:=m.get i s r;obtain⟨u,x,e,p⟩:=k.base q ZM
 injection e with e
 injection e with a d
 subst a;subst d;exact⟨sv,ys,f,g,fun j v t=>by rw[Nat.add_assoc];exact p _ v (h j v t)⟩
theorem YH(w0:Wl)(W:Nat)(t:Tr)(e:List (List Bq))(v a:Vl)(bs:List Nat)(vs:List Vl)(G:Nat->Prop)(o:Bq)(sv:Vl)(ys:List Vl)(c d b D:Nat)(w:Wl)(g:Br w)(f:10<=w0.heap.size)(z:w0.heap.size<=w.heap.size)(h:PO w0 w W t e v a bs vs G)(i:T7 o)(j:As w sv 6 o.steps.length ys)(k:Az w o.steps ys)(m:Ac w c (BJ o sv) 42)(n:Ac w d [nP (nM ⟨W,0,nN⟩)] 90)(p:Ac w b [nS (nM ⟨D,0,nN⟩) 6 6] 161)(q:Ac w D (HJ W) 163)(r:c∉Dj W a bs)(s:d∉Dj W a bs)(u:b∉Dj W a bs)(x:D∉Dj W a bs)(y:vs.length<=65536):
  Cl prog 78 #[nP (nM ⟨c,0,nN⟩),nP (nM ⟨d,0,nN⟩),nP (nM ⟨b,0,nN⟩)] w (CK w0 W t e a bs G o w):=by
 by_cases l:Bn o=0
 .exact Rz w0 W t e v a bs vs G o sv ys c d b D w g f z h i j k m n p q r s u x y l
 .exact Tx w0 W t e v a bs vs G o sv ys c d b D w g f z h i j k m n p q r s u x y l
structure Ha(w4:Wl)(W:Nat)(v:Vl)(n b:Int)(V:Nat->Vl->Prop)(d:Nat->Bool)(f:Nat->Vl)(w:Wl):Prop where
 chg:Chg w4 w [W]
 blk:Ac w W [v,nI nX (if d 13 then n else 0),nI nX (if d 16 then b else 0),nS nN 0 0] 98
 vals:∀j,d j=true->V j (f j)
theorem Ha.put{g:Wl}{W:Nat}{v:Vl}{n b:Int}{V:Nat->Vl->Prop}{d:Nat->Bool}{f:Nat->Vl}{w w':Wl}{j:Nat}{y:Vl}(h:Ha g W v n b V d f w)(i:j≠13)(l:j≠16)(m:V j y)(a:Chg w w' []):Ha g W v n b V (BA d j) (Eb f j y) w':=
 ⟨h.chg.trans (a.none _),by rw[An d (Ne.symm i),An d (Ne.symm l)];exact h.blk.kept a,fun k c=>by
  by_cases e:k=j
  .subst e;rw[Bf];exact m
  .rw[AA f y e];rw[An d e]at c;exact h.vals k c⟩
theorem Ha.vals'{g:Wl}{W:Nat}{v:Vl}{n b:Int}{V:Nat->Vl->Prop}{d:Nat->Bool}{f:Nat->Vl}{w:Wl}{j:Nat}(h:Ha g W v n b V d f w)(c:V j undef):∀k,BA d j k=true->V k (Eb f j undef k):=fun k a=>by
 by_cases e:k=j
 .subst e;rw[Bf];exact c
 .rw[AA f _ e];rw[An d e]at a;exact h.vals k a
theorem Ha.set1{a:Wl}{W:Nat}{v:Vl}{n b:Int}{V:Nat->Vl->Prop}{d:Nat->Bool}{f:Nat->Vl}{w:Wl}(h:Ha a W v n b V d f w)(c:V 13 undef):Ha a W v n b V (BA d 13) (Eb f 13 undef) (w.setCell ⟨W,1,nN⟩ (nI nX n)):=
 ⟨h.chg.setCell _ _ Zh,by rw[BG,An d ZM];exact h.blk.set 1 _,h.vals' c⟩
theorem Ha.set2{a:Wl}{W:Nat}{v:Vl}{n b:Int}{V:Nat->Vl->Prop}{d:Nat->Bool}{f:Nat->Vl}{w:Wl}(h:Ha a W v n b V d f w)(c:V 16 undef):Ha a W v n b V (BA d 16) (Eb f 16 undef) (w.setCell ⟨W,2,nN⟩ (nI nX b)):=
 ⟨h.chg.setCell _ _ Zh,by rw[BG,An d ZM];exact h.blk.set 2 _,h.vals' c⟩
def IS(W:Nat)(v:Vl)(s:Sz)(j:Nat)(y:Vl):Prop:=match j with
 |0=>y= nP (nM ⟨W,0,nN⟩)
 |1=>y= nP (nM ⟨W,0,nN⟩)
 |2=>y= nP (nM ⟨W,0,nN⟩)
 |3=>y= nP (nM ⟨W,0,nN⟩)
 |4=>y= nP (nM ⟨W,0,nN⟩)
 |5=>y=v
 |6=>y=Jv s
 |7=>y=Jv s
 |8=>y= nI nX s.nodes
 |9=>y= nI nX s.bytes
 |10=>y= nI nX s.depth
 |11=>y= nP (nM ⟨W,0,nN⟩)
 |12=>y= nP (nM ⟨W,1,nN⟩)
 |14=>y= nP (nM ⟨W,0,nN⟩)
 |15=>y= nP (nM ⟨W,2,nN⟩)
 |_=>True
def Fb(t:Tr)(b:List Bq)(w:Wl)(e:Ending)(w':Wl):Prop:=(match BR t [] 0 b with
 | .no k i=>e= nR (nT #[nP nN,nF 52 (nA #[nI nX k,nI nX i])])
 | .yes c u=>∃W a v d bs vs G,e= nR (nT #[nP (nM ⟨W,0,nN⟩),.nilIface])/\PO w w' W c a v d bs vs G/\a.flatten.reverse=u.map CW.toI)/\Chg w w' []
structure V9(w:Wl)(t:Tr)(ops:List Bq)(W WB DB D k:Nat)(t':Tr)(u':List CW)(gs:List (List Bq))(v uv:Vl)(bs:List Nat)(vs:List Vl)(G:Nat->Prop)(wr:Wl):Prop where
 run:BR t [] 0 (ops.take k)= .yes t' u'
 st:PO w wr W t' gs v uv bs vs G
 flat:gs.flatten.reverse=u'.map CW.toI
 len:gs.length=k
 chg:Chg w wr []
 b2:Ac wr WB [nP (nM ⟨W,0,nN⟩)] 90
 b3:Ac wr DB [nS (nM ⟨D,0,nN⟩) 6 6] 161
 b4:Ac wr D (HJ W) 163
 n2:WB∉Dj W uv bs
 n3:DB∉Dj W uv bs
 n4:D∉Dj W uv bs
theorem PO.geAll{w0 w:Wl}{W:Nat}{t:Tr}{d:List (List Bq)}{v c:Vl}{bs:List Nat}{vs:List Vl}{G:Nat->Prop}(h:PO w0 w W t d v c bs vs G):∀b,b∈Dj W c bs->w0.heap.size<=b:=by
 intro b a
 rcases Qf.1 a with a|a
 .exact(h.uown b (by simpa using a)).1
 .exact h.ge b a
theorem Uf{t:Tr}{u:List CW}{e:Nat}(h:Kj t u= .no e):e≠0:=by
 unfold Kj at h;split at h
 .cases h
 .injection h with h;omega
theorem Yi{t x:Tr}{ts:List BY}{m:List CW}{e:Nat}(h:Ga t ts x m= .no e):e≠0:=by
 unfold Ga at h;split at h
 .rename_i a;injection h with h;omega
 .exact Uf h
theorem Zq{t:Tr}{o:Bq}{e:Nat}(h:Gz t o= .no e):e≠0:=by
 unfold Gz at h;split at h
 .rename_i a;injection h with h;omega
 .unfold Da at h
  repeat' split at h
  all_goals first
   |exact Yi h
   |exact Uf h
   |(injection h with h;omega)
   |cases h
theorem Wb{a b:Int}(h:By a=By b):a=b:=by
 simpa[By,KN]using h
theorem PP{a:Int}{v:Vl}(h:Ending.returned v=By a):False:=by unfold By at h;cases h
theorem UL{w wr n:Wl}{W:Nat}{t b:Tr}{y:List Bq}{q p D k:Nat}{z:List CW}{d:List (List Bq)}{v c:Vl}{bs:List Nat}{vs:List Vl}{G:Nat->Prop}{o:Bq}{m:Nat}(x:Gz b o= .no m)(hi:V9 w t y W q p D k b z d v c bs vs G wr)(f:Chg wr n []){e:Ending}{w':Wl}(h:GB (fun l e g=>CK w W b d c bs G o l e g) (Dj W c bs) n e w'):
  e= nR (nI nX m)/\Chg w w' []:=by
 obtain⟨l,g,B,r,A,C,s,u,h⟩:=h;have E:=hi.chg.size;have F:=f.size;refine⟨?_,(((hi.chg.trans (f.trans r)).fresh u fun i a=>hi.st.geAll i a)).fresh s fun i a=>by simp at a;omega⟩;unfold CK at h;rw[x]at h
 rcases h with⟨h,_⟩|⟨j,h,rfl⟩
 .exact(PP h.1).elim
 .rw[Wb h.1]
theorem SR{w wr P:Wl}{W:Nat}{t r K:Tr}{q:List Bq}{y x D k:Nat}{L M:List CW}{C:List (List Bq)}{v l:Vl}{bs:List Nat}{vs:List Vl}{G:Nat->Prop}{o:Bq}(F:Gz r o= .yes K M)(U:q[k]? =nM o)(hi:V9 w t q W y x D k r L C v l bs vs G wr)(E:Chg wr P []){e:Ending}{w':Wl}(h:GB (fun O e N=>CK w W r C l bs G o O e N) (Dj W l bs) P e w'):
  e= nR (nI nX 0)/\∃Q s m g u n,V9 w t q W y x D (k+1) K (M++L) Q s m g u n w':=by
 obtain⟨O,N,B,z,Y,Z,p,A,h⟩:=h;have ab:=hi.chg.size;have ad:=E.size;have ae:=z.size;unfold CK at h;rw[F]at h
 rcases h with⟨⟨_,aa,s,m,g,u,n,V,I,R⟩,rfl⟩|⟨j,h,rfl⟩
 .have S:=hi.st.ltAll
  have J:=E.trans z
  have f:∀{X:Nat} {cs:List Vl} {T:Ti},Ac wr X cs T->X∉Dj W l bs->Ac w' X cs T/\X∉Dj W m g:=fun{X cs T} a H=>by
   have hl:=a.lt;refine⟨((a.kept J).kept A H).kept p (fun d=>by simp at d;omega),fun d=> ?_⟩
   rcases I X d with c|c
   .exact H c
   .omega
  refine⟨rfl,_,s,m,g,u,n,⟨Vu hi.run U F,V.kept p (fun b a=> ?_), ?_,by rw[Qk,hi.len];rfl,((hi.chg.trans J).fresh A fun i a=>hi.st.geAll i a).fresh p fun i a=>by simp at a;omega,(f hi.b2 hi.n2).1,(f hi.b3 hi.n3).1,(f hi.b4 hi.n4).1,(f hi.b2 hi.n2).2,(f hi.b3 hi.n3).2,(f hi.b4 hi.n4).2⟩⟩
  .simp only[Qh,List.not_mem_nil,or_false]at a
   subst a;refine⟨fun d=> ?_,fun d=> ?_⟩
   .rcases I b d with c|c
    .have:=S b c;omega
    .omega
   .rcases R b d with c|c
    .have:=(hi.st.gnew b c).2;omega
    .omega
  .rw[List.flatten_append,List.reverse_append,hi.flat,List.map_append]
   simp
 .exact(PP h.1.symm).elim
theorem Xs(t:Tr)(F:Nat->Prop)(tb:Nat)(y:List Bq)(so:Vl)(xs:List Vl)(w:Wl)(hL:Br w)(a0:10<=w.heap.size)(hT:CG w F tb t)(z:∀b,F b->b<w.heap.size)(aE:Bt t)(hR:As w so 4 y.length xs)(hS:Cc w y xs)(hO:∀o∈y,T7 o)(a4:y.length<=65536):
  Cl prog 43 #[nP (nM ⟨tb,0,nN⟩),so] w (Fb t y w):=by
 obtain⟨sa,sc,rfl,ag,br⟩:=hR.form;have HV:=hZ (M9 t F tb w hT z (Ar aE.fits).1);have ak:=hZ aE;have HL:=hZ hL;have bk:=hZ a0;have HR:=hZ hR;have HS:=hZ hS;have HO:=hZ hO;obtain⟨nl,aH⟩:=Ue y.length
 have am:=hZ aH;rw[<-aH]at a4 hR|-;have HM:=hZ a4;clear hL a0 hT z aE hR hS hO ag br aH;go_enter func43,ntmps43
 go_wp2_with(first
  |(go_at_call 68;refine HV.o.mono ?_;rintro e w1 ⟨v0,G0,rfl,hv,Y,a1⟩;have H1:=hZ Y;have aT:=hZ hv;have aO:=hZ a1;obtain⟨bN,bO,rfl⟩:=hv.iface;clear Y hv a1)
  |(go_at_call 76;refine(ab _ t G0 _ w1 (Q8 _) (Ar ak.o.fits).1 aT.o (fun b f=>(aO.o b f).2)).mono ?_;rintro e w2 ⟨v,bs,rfl,p1,p2,p3⟩;have P1:=hZ p1;have P2:=hZ p2;have P3:=hZ p3;obtain⟨J,L,rfl⟩:=p1.iface;clear p1 p2 p3))
 obtain⟨W,hW⟩:=Ue w2.heap.size
 obtain⟨u,aB⟩:=Ue (w2.heap.size+1)
 obtain⟨s,hs⟩:=Ue (Ag t)
 obtain⟨R,O⟩:=Ue (World.drew ((w2.alloc (nC #[nF J L,nI nX 0,nI nX 0,nS nN 0 0] 98)).alloc (nC #[nP (nM ⟨w2.heap.size,0,nN⟩)] 90)))
 have aU:=hZ O;have aW:=hZ hW;have aX:=hZ aB;have h2:Chg w w2 []:=H1.o.trans P3.o;have bu:=h2.size;have bt:=H1.o.size;have H4:Hid (Chg w R []):=by rw[O];exact hZ (((h2.alloc _).alloc _).drew)
 have az:Chg w2 R []:=by rw[O];exact((((Chg.refl w2 []).alloc _).alloc _).drew)
 have ap:∀b,b∈bs->b<W:=fun b f=>by rw[hW];exact AP.lt _ _ _ P1.o b f
 have aN:Hid (Ac R W [nF J L,nI nX 0,nI nX 0,nS nN 0 0] 98):=by rw[O,hW];exact hZ (((Ac.new w2 _ _).alloc _).drew)
 have S:Hid (Ac R u [nP (nM ⟨W,0,nN⟩)] 90):=by rw[O,hW,aB];exact hZ ((BD _ _ _ _ _ rfl Zh).drew)
 have T:=UD (u∉[W]) (by simp;omega);have aw:=hZ (P1.o.chg az Zh);have an:=UD (W∉bs) (fun h=>Nat.lt_irrefl _ (ap W h))
 have aS:=UD (∀A,Chg R A [W]->JB (nF J L) s A) fun A Q=>by
  rw[hs];exact MD _ t _ bs A (Q8 _) ak.o.good ak.o.fits (aw.o.chg Q (fun b f B=>by simp at f;subst f;exact an.o B))
 have al:=UD ((W::bs).Nodup/\(∀b,b∈W::bs->w.heap.size<=b)/\u∉W::bs) ⟨List.nodup_cons.2 ⟨an.o,P2.o.nodup⟩,fun b f=>by
  rcases Qh.1 f with rfl|f
  .omega
  .have:=P2.o.ge b f;omega,fun B=>by
  rcases Qh.1 B with B|B
  .omega
  .have:=ap _ B;omega⟩
 have aQ:=hZ hs;have aV:=UD (w.heap.size<=W) Zj;clear O h2 az ap bu bt hs;refine wp_region_any Yb ?_;change wpAny _ _ _ _ _ _ _ (World.drew _);rw[<-aU.o,<-aX.o,<-aW.o];clear hW aB aW aX P1 P2 P3 H1 aT aO aU;refine Dg _ (Ha R W (nF J L) s.nodes s.bytes (IS W (nF J L) s)) Yb ?_ ?_ _ ?_
 .intro ii op a wa dd d z bM p bK c K n
  match ii,d with
  |0,d=>
   obtain rfl:=Q5 d;have h6:a.tmps.getD 6 undef= nP (nM ⟨u,0,nN⟩):=z.at 6 Yb;have ad:=S.o.kept c.chg T.o;have E:=ad.cell 0;simp only[Qa]at E;go_simp
   exact n _ _ Zh (c.put ZM ZM (by simp[IS]) cR)
  |1,d=>
   obtain rfl:=Q5 d;have h6:a.tmps.getD 6 undef= nP (nM ⟨u,0,nN⟩):=z.at 6 Yb;have ad:=S.o.kept c.chg T.o;have E:=ad.cell 0;simp only[Qa]at E;go_simp
   exact n _ _ Zh (c.put ZM ZM (by simp[IS]) cR)
  |2,d=>
   obtain rfl:=Q5 d;have h6:a.tmps.getD 6 undef= nP (nM ⟨u,0,nN⟩):=z.at 6 Yb;have ad:=S.o.kept c.chg T.o;have E:=ad.cell 0;simp only[Qa]at E;go_simp
   exact n _ _ Zh (c.put ZM ZM (by simp[IS]) cR)
  |3,d=>
   obtain rfl:=Q5 d;have bA:a.tmps.getD 26 undef= nP (nM ⟨W,0,nN⟩):=c.vals 2 (p ⟨2,.data⟩ Zh rfl);go_simp
   exact n _ _ Zh (c.put ZM ZM (by simp[IS]) cR)
  |4,d=>
   obtain rfl:=Q5 d;have bB:a.tmps.getD 27 undef= nP (nM ⟨W,0,nN⟩):=c.vals 3 (p ⟨3,.data⟩ Zh rfl);go_simp
   exact n _ _ Zh (c.put ZM ZM (by simp[IS]) cR)
  |5,d=>
   obtain rfl:=Q5 d;have bC:a.tmps.getD 28 undef= nP (nM ⟨W,0,nN⟩):=c.vals 4 (p ⟨4,.data⟩ Zh rfl);have E:=c.blk.cell 0;simp only[Qa]at E;go_simp
   exact n _ _ Zh (c.put ZM ZM (by simp[IS]) cR)
  |6,d=>
   obtain rfl:=Q5 d;have bo:a.tmps.getD 29 undef= nF J L:=c.vals 5 (p ⟨5,.data⟩ Zh rfl);obtain⟨ff,bm,m1,m2⟩:=aS.o wa c.chg;rw[Qr (by simp[Region.wanted])];refine I3 _ _ _ rfl _ bo ff bm m1 _ m2 ?_;rintro e w1 ⟨rfl,Y⟩;exact⟨_,rfl,n _ _ Zh (c.put ZM ZM (by simp[IS]) Y)⟩
  |7,d=>
   obtain rfl:=Q5 d;have bD:a.tmps.getD 30 undef=Jv s:=c.vals 6 (p ⟨6,.data⟩ Zh rfl);go_simp
   exact n _ _ Zh (c.put ZM ZM (by simp[IS]) cR)
  |8,d=>
   obtain rfl:=Q5 d;have Z:a.tmps.getD 23 undef=Jv s:=c.vals 7 (p ⟨7,.data⟩ Zh rfl);unfold Jv at Z;go_simp
   exact n _ _ Zh (c.put ZM ZM (by simp[IS]) cR)
  |9,d=>
   obtain rfl:=Q5 d;have Z:a.tmps.getD 23 undef=Jv s:=c.vals 7 (p ⟨7,.data⟩ Zh rfl);unfold Jv at Z;go_simp
   exact n _ _ Zh (c.put ZM ZM (by simp[IS]) cR)
  |10,d=>
   obtain rfl:=Q5 d;have Z:a.tmps.getD 23 undef=Jv s:=c.vals 7 (p ⟨7,.data⟩ Zh rfl);unfold Jv at Z;go_simp
   exact n _ _ Zh (c.put ZM ZM (by simp[IS]) cR)
  |11,d=>
   obtain rfl:=Q5 d;have az:a.tmps.getD 24 undef= nP (nM ⟨W,0,nN⟩):=c.vals 0 (p ⟨0,.data⟩ Zh rfl);go_simp
   exact n _ _ Zh (c.put ZM ZM (by simp[IS]) cR)
  |12,d=>
   obtain rfl:=Q5 d;have bG:a.tmps.getD 34 undef= nP (nM ⟨W,0,nN⟩):=c.vals 11 (p ⟨11,.data⟩ Zh rfl);go_simp
   exact n _ _ Zh (c.put ZM ZM (by simp[IS]) cR)
  |13,d=>
   obtain rfl:=Q5 d;have bH:a.tmps.getD 35 undef= nP (nM ⟨W,1,nN⟩):=c.vals 12 (p ⟨12,.data⟩ Zh rfl);have bE:a.tmps.getD 31 undef= nI nX s.nodes:=c.vals 8 (p ⟨8,.data⟩ Zh rfl);have aD:=c.blk.cell 1;simp only[Qa,Qb]at aD;have bq:=c.blk.frozen 1;go_simp
   exact n _ _ Zh (c.set1 trivial)
  |14,d=>
   obtain rfl:=Q5 d;have bz:a.tmps.getD 25 undef= nP (nM ⟨W,0,nN⟩):=c.vals 1 (p ⟨1,.data⟩ Zh rfl);go_simp
   exact n _ _ Zh (c.put ZM ZM (by simp[IS]) cR)
  |15,d=>
   obtain rfl:=Q5 d;have bI:a.tmps.getD 36 undef= nP (nM ⟨W,0,nN⟩):=c.vals 14 (p ⟨14,.data⟩ Zh rfl);go_simp
   exact n _ _ Zh (c.put ZM ZM (by simp[IS]) cR)
  |16,d=>
   obtain rfl:=Q5 d;have bJ:a.tmps.getD 37 undef= nP (nM ⟨W,2,nN⟩):=c.vals 15 (p ⟨15,.data⟩ Zh rfl);have bF:a.tmps.getD 32 undef= nI nX s.bytes:=c.vals 9 (p ⟨9,.data⟩ Zh rfl);have aD:=c.blk.cell 2;simp only[Qa,Qb]at aD;have bq:=c.blk.frozen 2;go_simp
   exact n _ _ Zh (c.set2 trivial)
  |_+17,d=>exact absurd d Zh
 .intro a wR dd z r c
  have hB:=c.blk;rw[r 13 ZM,r 16 ZM,Qr rfl,Qr rfl]at hB;have au:=hZ hB;have av:=hZ (S.o.kept c.chg T.o);have aP:=UD (Chg w wR []) (H4.o.fresh c.chg (fun i hi=>by simp at hi;subst hi;exact aV.o));have ax:=hZ (aw.o.chg c.chg (fun b f B=>by simp at f;subst f;exact an.o B));clear c r hB;have ae:=z.form' [24,25,26,27,28,29,30,23,31,32,33,34,35,36,37] Yb;have a2:=z.defers;obtain⟨q,df⟩:=a;clear z
  dsimp only at ae a2
  simp only[List.foldl_cons,List.foldl_nil]at ae;obtain⟨u24,a6⟩:=Ue (q.getD 24 undef)
  obtain⟨u25,a7⟩:=Ue (q.getD 25 undef)
  obtain⟨u26,a8⟩:=Ue (q.getD 26 undef)
  obtain⟨u27,a9⟩:=Ue (q.getD 27 undef)
  obtain⟨u28,ba⟩:=Ue (q.getD 28 undef)
  obtain⟨u29,bb⟩:=Ue (q.getD 29 undef)
  obtain⟨u30,bc⟩:=Ue (q.getD 30 undef)
  obtain⟨u23,a5⟩:=Ue (q.getD 23 undef)
  obtain⟨u31,bd⟩:=Ue (q.getD 31 undef)
  obtain⟨u32,be⟩:=Ue (q.getD 32 undef)
  obtain⟨u33,bf⟩:=Ue (q.getD 33 undef)
  obtain⟨u34,bg⟩:=Ue (q.getD 34 undef)
  obtain⟨u35,bh⟩:=Ue (q.getD 35 undef)
  obtain⟨u36,bi⟩:=Ue (q.getD 36 undef)
  obtain⟨u37,bj⟩:=Ue (q.getD 37 undef)
  rw[<-a6,<-a7,<-a8,<-a9,<-ba,<-bb,<-bc,<-a5,<-bd,<-be,<-bf,<-bg,<-bh,<-bi,<-bj]at ae;clear a6 a7 a8 a9 ba bb bc a5 bd be bf bg bh bi bj;simp only[List.setIfInBounds_toArray,List.set_cons_zero,List.set_cons_succ]at ae;subst ae;subst a2;obtain⟨l1,f1,d1⟩:=Ac.cells1 av.o;clear H4 aN S aw aS;go_wp2_with(go_at_call 77;refine(ZA W _).mono ?_;rintro e w5 ⟨rfl,q1,q2⟩;have Q1:=hZ q1;have Q2:=hZ q2;clear q1 q2)
  obtain⟨D,hD⟩:=Ue wR.heap.size
  obtain⟨U,aA⟩:=Ue w5.heap.size
  obtain⟨w6,ai⟩:=Ue (w5.alloc (nC #[nS (nM ⟨wR.heap.size,0,nN⟩) 6 6] 161))
  have aa:Chg wR w6 []:=by rw[ai];exact Q2.o.alloc _
  have bv:=Q2.o.size;have aY:Ac w6 D (HJ W) 163:=by rw[ai,hD];exact Q1.o.alloc _
  have aZ:Ac w6 U [nS (nM ⟨D,0,nN⟩) 6 6] 161:=by rw[ai,hD,aA];exact BD _ _ _ _ _ rfl rfl
  have aF:∀b,b∈W::bs->b<D:=fun b f=>by
   rw[hD]
   rcases Qh.1 f with rfl|f
   .exact au.o.lt
   .exact AP.lt _ _ _ ax.o b f
  have ao:∀b,b∈Dj W (nS nN 0 0) bs->b∈W::bs:=fun b f=>by simpa[Dj,Vl.ownBlock]using f
  have aR:=UD (V9 w t y W u U D 0 t [] [] (nF J L) (nS nN 0 0) bs [] (fun _=>False) w6) ⟨by simp[BR],⟨⟨by rw[<-aQ.o];exact au.o.kept aa,ax.o.chg aa Zh,ak.o⟩,al.o.1,al.o.2.1,AK.nil _ _,rfl,fun b f=>f.elim,fun b f h=>h,fun g hg=>by cases hg⟩,
   rfl,rfl,aP.o.trans aa,av.o.kept aa,aZ,aY,fun h=>al.o.2.2 (ao _ h),fun h=>by have:=aF _ (ao _ h);omega,fun h=>by have:=aF _ (ao _ h);omega⟩
  rw[<-ai,<-aA,<-hD];clear ai aA hD aa bv aY aZ aF ao au av aP ax l1 f1 d1 Q1 Q2 T an al aQ aV;go_loopw [42] (fun aM wr=>∃(k:Nat) (I:Tr) (u':List CW) (X:List (List Bq)) (v K:Vl) (bs:List Nat) (vs:List Vl) (G:Nat->Prop),k<=nl/\aM= nI nX k/\V9 w t y W u U D k I u' X v K bs vs G wr) (fun aM _=>nl-(intOf aM).toNat)
  case atStart=>exact⟨0,_,_,_,_,_,_,_,_,Zj,rfl,aR.o⟩
  case round=>
   obtain⟨k,I,u',X,v,K,V,vs,G,hk,rfl,a3⟩:=hrel;have l:=hZ a3;clear a3 aR;by_cases ap:k<nl
   .obtain⟨o,d⟩:∃o,y[k]? =nM o:=⟨_,Q9 (by have:=am.o;omega)⟩
    obtain⟨b,ob,rfl,_⟩:=HR.o.base (by have:=am.o;omega) ZM;obtain⟨sv,ys,aq,aJ,ag⟩:=Cc.item HR.o (by have:=am.o;omega) HS.o d;obtain⟨aK,aL,rfl,_⟩:=aq.form;have M:∀j x,(BJ o (nS aK o.steps.length aL))[j]? =nM x->wr.cell? ⟨b,ob+k*4+j,nN⟩=nM x:=fun j x Q=>l.o.chg.keeps (ag j x Q)
    have c0:=M 0 _ rfl;have c1:=M 1 _ rfl;have c2:=M 2 _ rfl;have c3:=M 3 _ rfl;rw[Nat.add_zero]at c0;obtain⟨wy,P⟩:=Ue (wr.alloc (nC #[nI nX o.kind,nG o.path,nG o.frm,nS aK o.steps.length aL] 42))
    have N:Chg wr wy []:=by rw[P];exact(Chg.refl wr []).alloc _
    have aC:Ac wy wr.heap.size (BJ o (nS aK o.steps.length aL)) 42:=by rw[P];exact BD _ _ _ _ _ rfl rfl
    have aG:wr.heap.size∉Dj W K V:=fun h=>Nat.lt_irrefl _ (l.o.st.ltAll _ h)
    have aI:vs.length<=65536:=by have Y:=l.o.st.grp.length;have h2:=l.o.len;omega
    have hc:=Xp 78 #[nP (nM ⟨wr.heap.size,0,nN⟩),nP (nM ⟨u,0,nN⟩),nP (nM ⟨U,0,nN⟩)] (Dj W K V) wy (fun A e w1=>CK w W I X K V G o A e w1)
     (fun b f=>Q6 (l.o.st.ltAll b f) N.size) (fun _=>Yb)
     (fun A Q=>by
      have aj:=N.trans Q;have ar:=l.o.chg.trans aj
      exact YH w W I X v K V vs G o _ ys _ u U D A (HL.o.kept ar) bk.o ar.size (l.o.st.kept aj) (HO.o o (Qi d)) (aq.kept ar) (Az.kept ar aJ) (aC.kept Q) (l.o.b2.kept aj) (l.o.b3.kept aj) (l.o.b4.kept aj) aG l.o.n2 l.o.n3 l.o.n4 aI)
     (fun A e w1 H=>by
      unfold CK at H
      cases r:Gz I o with
      |no m=>rw[r]at H;exact⟨H.2,.inr ⟨_,H.1⟩⟩
      |yes t2 un=>rw[r]at H;exact⟨H.2.1,.inl H.1⟩)
    cases r:Gz I o with
    |no m=>
     have C:=hZ (hc.mono fun e w' h=>UL r l.o N h);have af:BR t [] 0 y= .no m k:=by have:=Us l.o.run d r;rwa[Nat.zero_add]at this
     have ay:=hZ af;have bL:((m:Int) !=0)=true:=by have:=Zq r;rw[bne_iff_ne];omega
     rw[P]at C;clear r hc af P N aC aG aI M ag aq aJ d;obtain⟨sl,ah⟩:=Ue o.steps.length
     rw[<-ah]at C c3;clear ah;go_wp2_with((go_at_call 49;refine C.o.mono ?_;rintro e w3 ⟨rfl,h3⟩;have H3:=hZ h3;clear h3))
     go_ret2
     unfold Fb;rw[ay.o];exact⟨rfl,H3.o⟩
    |yes t2 un=>
     have C:=hZ (hc.mono fun e w' h=>SR r d l.o N h);rw[P]at C;clear r hc P N aC aG aI M ag aq aJ d;obtain⟨sl,ah⟩:=Ue o.steps.length
     rw[<-ah]at C c3;clear ah;go_wp2_with((go_at_call 49;refine C.o.mono ?_;rintro e w3 ⟨rfl,h3⟩;have H3:=hZ h3;clear h3))
     go_roundw
     case rel=>obtain⟨bn,v2,bw,bl,bx,G2,bp⟩:=H3.o;exact⟨k+1,t2,_,bn,v2,bw,bl,bx,G2,Zj,by go_num,bp⟩
     case measure=>simp[intOf];omega
   .obtain rfl:k=nl:=by omega
    have c0:wr.cell? ⟨u,0,nN⟩=nM (nP (nM ⟨W,0,nN⟩)):=l.o.b2.cell 0;have af:BR t [] 0 y= .yes I u':=by have:=l.o.run;rwa[am.o,Qn (Q8 _)]at this
    have ay:=hZ af;clear af;go_wp2_with fail
    go_ret2
    unfold Fb;rw[ay.o];exact⟨⟨W,X,v,K,V,vs,G,rfl,l.o.st,l.o.flat⟩,l.o.chg⟩
 .exact⟨Chg.refl _ _,aN.o,fun _ e=>by cases e⟩
def Hk(k i:Int):Vl:= nF 52 (nA #[nI nX k,nI nX i])
def V8(r:Zi)(w:Wl)(e:Ending)(w':Wl):Prop:=match r with
 | .no k i=>e= nR (nT #[nP nN,Hk k i])/\Chg w w' []
 | .yes a _=>F9 a w e w'
structure Yc(w:Wl)(F:Nat->Prop)(tb:Nat)(t:Tr)(ops:List Bq)(so:Vl)(xs:List Vl):Prop where
 laid:Br w
 big:10<=w.heap.size
 tree:CG w F tb t
 lt:∀b,F b->b<w.heap.size
 fine:Bt t
 row:As w so 4 ops.length xs
 at_:Cc w ops xs
 small:∀o∈ops,T7 o
 many:ops.length<=65536
theorem CG.kept{w w':Wl}{F:Nat->Prop}{c:Nat}{t:Tr}(h:CG w F c t)(a:Chg w w' [])(g:∀b,F b->b<w.heap.size):CG w' F c t:=by
 obtain⟨v,d,e,f⟩:=h;exact⟨v,a.keeps d,Af.kept (a.keepsF g) (fun _ h=>h) _ _ e,Q6 f a.size⟩
theorem Yc.kept{w w':Wl}{F:Nat->Prop}{e:Nat}{t:Tr}{c:List Bq}{d:Vl}{xs:List Vl}(h:Yc w F e t c d xs)(a:Chg w w' []):Yc w' F e t c d xs:=
 ⟨h.laid.kept a,Q7 h.big a.size,h.tree.kept a h.lt,fun b f=>Q6 (h.lt b f) a.size,h.fine,h.row.kept a,Cc.kept a h.at_,h.small,h.many⟩
theorem IB(F:Nat->Prop)(o:Nat)(t:Tr)(c:List Bq)(n:Vl)(xs:List Vl)(w:Wl)(h:Yc w F o t c n xs):
  Cl prog 15 #[nP (nM ⟨o,0,nN⟩),n] w (V8 (BR t [] 0 c) w):=by
 have a:=Xs t F o c n xs w h.laid h.big h.tree h.lt h.fine h.row h.at_ h.small h.many;have r:Fb t c w=fun e w'=>Fb t c w e w':=rfl
 unfold Fb at a;obtain⟨O,P,rfl,_⟩:=h.row.form;obtain⟨N,m⟩:=Ue c.length
 rw[<-m]at a|-
 cases j:BR t [] 0 c with
 |no k i=>
  rw[j]at a;have l:=hZ a;clear a j h m r;go_enter func15,ntmps15
  go_wp2_with((go_at_call 43;refine l.o.mono ?_;rintro e K ⟨rfl,f⟩;have d:=hZ f;clear f))
  go_ret2
  exact⟨rfl,d.o⟩
 |yes Q u=>
  rw[j]at a;have l:=hZ a;clear a j h m r;go_enter func15,ntmps15
  go_wp2_with(first
   |(go_at_call 43;refine l.o.mono ?_;rintro e K ⟨⟨W,L,v,S,bs,vs,G,rfl,g,I⟩,f⟩;have d:=hZ f;have p:=hZ g;obtain⟨R,T,rfl⟩:=g.wat.at_.iface;have E:=g.wat.blk.cell 0;simp only[Qa]at E;have M:=g.wat.blk.lt;clear f g I)
   |(go_at_call 44;refine(ZC p.o.wat.fine p.o.wat.at_).mono ?_;rintro e w2 ⟨A,J,rfl,s,x,y,z⟩;have B:=hZ s;have C:=hZ x;have D:=hZ y;have q:=hZ z;clear s x y z))
  go_ret2
  exact⟨A,J,rfl,B.o,C.o,d.o.trans D.o,fun b H=>Q7 d.o.size (q.o.1 b H),Q7 d.o.size q.o.2⟩
theorem Cw{e:Array Oper}{o:Oper}{a:Act}{i:Nat}{b:Bool}{s:Tmp}(g:o.guard=nM (i,b))(d:Es e i=nM s)(c:a.tmps.getD s undef= .bool b):Region.wanted o (yielded e a.tmps)=true:=by
 unfold Region.wanted;rw[g]
 have f:a.tmps[s]? =nM (.bool b):=by
  rw[Qp]at c
  cases h:a.tmps[s]? with
  |none=>rw[h]at c;cases c
  |some x=>rw[h]at c;exact congrArg _ c
 unfold Es at d;simp only[yielded,d,Option.bind_some,f,beq_self_eq_true]
theorem Af.backW{w w':Wl}{F:Nat->Prop}{t:Tr}{v:Vl}(h:Af w' F t v)(d:Chg w w' [])(a:∀k,F k->k<w.heap.size):Af w F t v:=
 h.kept (F:=F) (fun b o c=>((d.cell (p:=⟨b,o,nN⟩) (a b c) Zh)).symm) (fun _ h=>h) _ _
theorem Ax.backW{w w':Wl}{F:Nat->Prop}{a:Vl}{vs:List Vl}(h:Ax w' F a vs)(e:Chg w w' [])(c:∀k,F k->k<w.heap.size):Ax w F a vs:=
 h.kept (F:=F) (fun b o d=>((e.cell (p:=⟨b,o,nN⟩) (c b d) Zh)).symm) (fun _ h=>h)
theorem Ak.backW{w w':Wl}{F:Nat->Prop}{l:List Tr}{vs:List Vl}(h:Ak w' F l vs)(d:Chg w w' [])(a:∀k,F k->k<w.heap.size):Ak w F l vs:=
 Ak.kept (F:=F) (fun b o c=>((d.cell (p:=⟨b,o,nN⟩) (a b c) Zh)).symm) (fun _ h=>h) _ _ h
theorem RX(F:Nat->Prop)(t:Tr)(v:Vl)(w:Wl)(b:Af w F t v)(c:∀k,F k->k<w.heap.size):
  Cl prog 62 #[nA #[v]] w fun e w'=>e= nR (nI nX (Hj t))/\Chg w w' []:=by
 obtain⟨m,x,rfl⟩:=b.iface;have a:Chg w (w.alloc (nC #[nF m x] 64)) []:=(Chg.refl w []).alloc _;obtain⟨f,args,g,d⟩:=Sg t _ (Af.kept (a.keepsF c) (fun _ h=>h) _ _ b);have l:=hZ g;have j:=hZ d;clear b c a g d;go_enter func62,ntmps62
 go_wp2_with(refine Am rfl _ _ _ rfl _ rfl f args l.o _ j.o ?_;rintro e n ⟨rfl,a⟩;refine⟨_,rfl, ?_⟩;have i:=hZ a;clear a)
 go_ret
 exact⟨rfl,((Chg.refl w []).alloc _).trans i.o⟩
theorem D3:(prog.info? 64).map (·.size)=nM 1:=Yb
def J3(t:Tr)(v u:Vl)(F G:Nat->Prop)(w:Wl)(j:Nat)(y:Vl):Prop:=match j with
 |0=>y= nA #[v]
 |1=>y= nI nX (Hj t)
 |2=>y= nA #[u]
 |3=>y= nI nX (Hj t)
 |4=>y= .bool false
 |5=>y= .bool false
 |6=>y= nA #[v]
 |7=>y= nI nX (Ab t).length
 |8=>y= nA #[u]
 |9=>y= nI nX (Ab t).length
 |10=>y= .bool false
 |11=>y= .bool false
 |12=>y= .bool false
 |13=>y= nA #[v]
 |14=>Ax w F y (Ad (JN t))
 |15=>y= nA #[u]
 |16=>Ax w G y (Ad (JN t))
 |17=>y= .bool true
 |18=>y= .bool false
 |_=>y= .bool false
def Zw(t:Tr)(v u:Vl)(F G:Nat->Prop)(w:Wl)(j:Nat)(y:Vl):Prop:=match j with
 |0=>y= nA #[v]
 |1=>∃vs,Ax w F y vs/\Ak w F (Ab t) vs
 |2=>y= nA #[u]
 |3=>∃vs,Ax w G y vs/\Ak w G (Ab t) vs
 |4=>∃vs,Ax w F y vs/\Ak w F (Ab t) vs
 |_=>∃vs,Ax w G y vs/\Ak w G (Ab t) vs
def Np(v u:Vl)(c d:Vl)(k:Nat)(a b:Addr)(j:Nat)(y:Vl):Prop:=match j with
 |0=>y=c
 |1=>y= nI nX k
 |2=>y= nP (nM a)
 |3=>y=v
 |4=>y= nA #[v]
 |5=>y=d
 |6=>y= nI nX k
 |7=>y= nP (nM b)
 |8=>y=u
 |9=>y= nA #[u]
 |10=>y= .bool true
 |_=>y= .bool false
theorem O4(a b:Nat)(w:Wl):(binOp .eql 62 (nF 219 (.float .f64 a)) (nF 219 (.float .f64 b))).run prog w= .ok (.bool (FloatKind.f64.format.order a b==nM .eq)) w:=Yb
theorem Nt(a b:BY)(w:Wl):(binOp .eql 62 (nF 220 (nG a)) (nF 220 (nG b))).run prog w= .ok (.bool (a==b)) w:=Yb
theorem XF:∀(k:Nat) (t:Tr) (F G:Nat->Prop) (v u:Vl) (w:Wl),(Ag t).nodes<=k->(Ag t).nodes<=65536->Av t->Af w F t v->Af w G t u->(∀b,F b->b<w.heap.size)->(∀b,G b->b<w.heap.size)->
  Cl prog 29 #[nA #[v],nA #[u]] w (BU true w):=by
 intro k
 induction k with
 |zero=>intro t _ _ _ _ _ h;have:=Cv t;omega
 |succ k0 ih=>
 intro t F G v u w z hn N y O o hG
 have aH:∀x vx vy w',x∈Ab t->Af w' F x vx->Af w' G x vy->(∀b,F b->b<w'.heap.size)->(∀b,G b->b<w'.heap.size)->Cl prog 29 #[nA #[vx],nA #[vy]] w' (BU true w'):=fun x vx vy w' hx p h2 h3 h4=>by
  obtain⟨i,hi⟩:=List.mem_iff_getElem?.1 hx;have:=CO hi;exact ih x F G vx vy w' Zj Zj (N.items x hx) p h2 h3 h4
 have IH:=hZ aH;have Y:=hZ y;have Z:=hZ O;have L:=hZ o;have M:=hZ hG;have bt:=hZ hn
 have aI:(JN t).length<=4294967296:=by
  cases t with
  |obj ks l=>simp only[Av]at N;exact Q7 N.1.many Zj
  |_=>simp[JN]
 have ad:=hZ aI;obtain⟨Q,R,rfl⟩:=y.iface;obtain⟨t2,x2,rfl⟩:=O.iface;have bs:=hZ N;clear aH ih z hn N y O o hG aI;go_enter func29,ntmps29
 go_wp2_with fail
 obtain⟨X,af⟩:=Ue (World.drew ((w.alloc (nC #[nF Q R] 64)).alloc (nC #[nF t2 x2] 64)))
 have az:=hZ af;have C:Hid (Chg w X []):=by rw[af];exact hZ ((((Chg.refl w []).alloc _).alloc _).drew)
 have D:Hid (Ac X w.heap.size [nF Q R] 64):=by rw[af];exact hZ (((Ac.new w [nF Q R] _).alloc _).drew)
 have E:Hid (Ac X (w.heap.size+1) [nF t2 x2] 64):=by rw[af];exact hZ ((BD _ _ _ _ _ rfl Zh).drew)
 have am:=UD (∀b,F b->b<X.heap.size) fun b T=>Q6 (L.o b T) C.o.size
 have an:=UD (∀b,G b->b<X.heap.size) fun b T=>Q6 (M.o b T) C.o.size
 clear af;refine wp_region_any Yb ?_;change wpAny _ _ _ _ _ _ _ (World.drew _);rw[<-az.o];refine Dg _ (PX (J3 t (nF Q R) (nF t2 x2) F G X) X) Yb ?_ ?_ _ ?_
 .intro ii op a P dd d o bk f aD c K j
  match ii,d with
  |0,d=>
   obtain rfl:=Q5 d;have I:a.tmps.getD 2 undef= nP (nM ⟨w.heap.size,0,nN⟩):=o.at 2 Yb;rw[Qr (by simp[Region.wanted])];refine Bd _ _ rfl _ I 64 _ (D.o.kept c.1) _ underlying64 rfl D3 ?_;exact j _ _ Zh (c.put (by simp[J3]) cR)
  |1,d=>
   obtain rfl:=Q5 d;have U:a.tmps.getD 10 undef= nA #[nF Q R]:=c.2 0 (f ⟨0,.data⟩ Zh rfl);rw[Qr (by simp[Region.wanted])];go_simp
   go_at_call 62;refine(RX F t _ P (Af.kept ((C.o.trans c.1).keepsF L.o) (fun _ h=>h) _ _ Y.o) (fun k z=>Q6 (L.o k z) (C.o.trans c.1).size)).mono ?_;rintro e w1 ⟨rfl,p⟩;exact j _ _ Zh (c.put rfl p)
  |2,d=>
   obtain rfl:=Q5 d;have I:a.tmps.getD 3 undef= nP (nM ⟨w.heap.size+1,0,nN⟩):=o.at 3 Yb;rw[Qr (by simp[Region.wanted])];refine Bd _ _ rfl _ I 64 _ (E.o.kept c.1) _ underlying64 rfl D3 ?_;exact j _ _ Zh (c.put (by simp[J3]) cR)
  |3,d=>
   obtain rfl:=Q5 d;have U:a.tmps.getD 12 undef= nA #[nF t2 x2]:=c.2 2 (f ⟨2,.data⟩ Zh rfl);rw[Qr (by simp[Region.wanted])];go_simp
   go_at_call 62;refine(RX G t _ P (Af.kept ((C.o.trans c.1).keepsF M.o) (fun _ h=>h) _ _ Z.o) (fun k z=>Q6 (M.o k z) (C.o.trans c.1).size)).mono ?_;rintro e w1 ⟨rfl,p⟩;exact j _ _ Zh (c.put rfl p)
  |4,d=>
   obtain rfl:=Q5 d;have bO:a.tmps.getD 11 undef= nI nX (Hj t):=c.2 1 (f ⟨1,.data⟩ Zh rfl);have bP:a.tmps.getD 13 undef= nI nX (Hj t):=c.2 3 (f ⟨3,.data⟩ Zh rfl);rw[Qr (by simp[Region.wanted])];go_simp
   exact j _ _ Zh (c.put (by simp[J3]) cR)
  |5,d=>
   obtain rfl:=Q5 d;have bQ:a.tmps.getD 14 undef= .bool false:=c.2 4 (f ⟨4,.data⟩ Zh rfl);rw[Qr (by simp[Region.wanted])];go_simp
   exact j _ _ Zh (c.put (by simp[J3]) cR)
  |6,d=>
   obtain rfl:=Q5 d;have I:a.tmps.getD 2 undef= nP (nM ⟨w.heap.size,0,nN⟩):=o.at 2 Yb;rw[Qr (Cw rfl ZN (c.2 5 (f ⟨5,.guard⟩ Zh rfl)))];refine Bd _ _ rfl _ I 64 _ (D.o.kept c.1) _ underlying64 rfl D3 ?_;exact j _ _ Zh (c.put (by simp[J3]) cR)
  |7,d=>
   obtain rfl:=Q5 d;have U:a.tmps.getD 16 undef= nA #[nF Q R]:=c.2 6 (f ⟨6,.data⟩ Zh rfl);rw[Qr (Cw rfl ZN (c.2 5 (f ⟨5,.guard⟩ Zh rfl)))];go_simp
   go_at_call 63;refine(Up F t _ P (Af.kept ((C.o.trans c.1).keepsF L.o) (fun _ h=>h) _ _ Y.o) (fun k z=>Q6 (L.o k z) (C.o.trans c.1).size)).mono ?_;rintro e w1 ⟨rfl,p⟩;exact j _ _ Zh (c.put rfl p)
  |8,d=>
   obtain rfl:=Q5 d;have I:a.tmps.getD 3 undef= nP (nM ⟨w.heap.size+1,0,nN⟩):=o.at 3 Yb;rw[Qr (Cw rfl ZN (c.2 5 (f ⟨5,.guard⟩ Zh rfl)))];refine Bd _ _ rfl _ I 64 _ (E.o.kept c.1) _ underlying64 rfl D3 ?_;exact j _ _ Zh (c.put (by simp[J3]) cR)
  |9,d=>
   obtain rfl:=Q5 d;have U:a.tmps.getD 18 undef= nA #[nF t2 x2]:=c.2 8 (f ⟨8,.data⟩ Zh rfl);rw[Qr (Cw rfl ZN (c.2 5 (f ⟨5,.guard⟩ Zh rfl)))];go_simp
   go_at_call 63;refine(Up G t _ P (Af.kept ((C.o.trans c.1).keepsF M.o) (fun _ h=>h) _ _ Z.o) (fun k z=>Q6 (M.o k z) (C.o.trans c.1).size)).mono ?_;rintro e w1 ⟨rfl,p⟩;exact j _ _ Zh (c.put rfl p)
  |10,d=>
   obtain rfl:=Q5 d;have bS:a.tmps.getD 17 undef= nI nX (Ab t).length:=c.2 7 (f ⟨7,.data⟩ Zh rfl);have bT:a.tmps.getD 19 undef= nI nX (Ab t).length:=c.2 9 (f ⟨9,.data⟩ Zh rfl);rw[Qr (Cw rfl ZN (c.2 5 (f ⟨5,.guard⟩ Zh rfl)))];go_simp
   exact j _ _ Zh (c.put (by simp[J3]) cR)
  |11,d=>
   obtain rfl:=Q5 d;have bR:a.tmps.getD 15 undef= .bool false:=c.2 5 (f ⟨5,.data⟩ Zh rfl);have bU:a.tmps.getD 20 undef= .bool false:=c.2 10 (f ⟨10,.data⟩ Zh rfl);rw[Qr (by simp[Region.wanted])];go_simp
   exact j _ _ Zh (c.put (by simp[J3]) cR)
  |12,d=>
   obtain rfl:=Q5 d;have bV:a.tmps.getD 21 undef= .bool false:=c.2 11 (f ⟨11,.data⟩ Zh rfl);rw[Qr (by simp[Region.wanted])];go_simp
   exact j _ _ Zh (c.put (by simp[J3]) cR)
  |13,d=>
   obtain rfl:=Q5 d;have I:a.tmps.getD 2 undef= nP (nM ⟨w.heap.size,0,nN⟩):=o.at 2 Yb;rw[Qr (Cw rfl ZN (c.2 12 (f ⟨12,.guard⟩ Zh rfl)))];refine Bd _ _ rfl _ I 64 _ (D.o.kept c.1) _ underlying64 rfl D3 ?_;exact j _ _ Zh (c.put (by simp[J3]) cR)
  |14,d=>
   obtain rfl:=Q5 d;have U:a.tmps.getD 23 undef= nA #[nF Q R]:=c.2 13 (f ⟨13,.data⟩ Zh rfl);rw[Qr (Cw rfl ZN (c.2 12 (f ⟨12,.guard⟩ Zh rfl)))];go_simp
   go_at_call 65;refine(RY F t _ P (Af.kept ((C.o.trans c.1).keepsF L.o) (fun _ h=>h) _ _ Y.o) (fun k z=>Q6 (L.o k z) (C.o.trans c.1).size)).mono ?_;rintro e w1 ⟨sk,rfl,h0,p⟩;exact j _ _ Zh (c.put (h0.backW (c.1.trans p) am.o) p)
  |15,d=>
   obtain rfl:=Q5 d;have I:a.tmps.getD 3 undef= nP (nM ⟨w.heap.size+1,0,nN⟩):=o.at 3 Yb;rw[Qr (Cw rfl ZN (c.2 12 (f ⟨12,.guard⟩ Zh rfl)))];refine Bd _ _ rfl _ I 64 _ (E.o.kept c.1) _ underlying64 rfl D3 ?_;exact j _ _ Zh (c.put (by simp[J3]) cR)
  |16,d=>
   obtain rfl:=Q5 d;have U:a.tmps.getD 25 undef= nA #[nF t2 x2]:=c.2 15 (f ⟨15,.data⟩ Zh rfl);rw[Qr (Cw rfl ZN (c.2 12 (f ⟨12,.guard⟩ Zh rfl)))];go_simp
   go_at_call 65;refine(RY G t _ P (Af.kept ((C.o.trans c.1).keepsF M.o) (fun _ h=>h) _ _ Z.o) (fun k z=>Q6 (M.o k z) (C.o.trans c.1).size)).mono ?_;rintro e w1 ⟨sk,rfl,h0,p⟩;exact j _ _ Zh (c.put (h0.backW (c.1.trans p) an.o) p)
  |17,d=>
   obtain rfl:=Q5 d;have bA:=f ⟨14,.data⟩ Zh rfl;have bB:=f ⟨16,.data⟩ Zh rfl;have aA:Ax X F (a.tmps.getD 24 undef) (Ad (JN t)):=c.2 14 bA;have aB:Ax X G (a.tmps.getD 26 undef) (Ad (JN t)):=c.2 16 bB;obtain⟨s1,bC⟩:∃s,a.tmps.getD 24 undef=s:=⟨_,rfl⟩
   obtain⟨s2,bD⟩:∃s,a.tmps.getD 26 undef=s:=⟨_,rfl⟩
   rw[bC]at aA;rw[bD]at aB;have HQ:=Ix (JN t) (JN t) s1 s2 P (aA.kept (c.1.keepsF am.o) (fun _ h=>h)) (aB.kept (c.1.keepsF an.o) (fun _ h=>h)) ad.o ad.o;rw[decide_eq_true rfl]at HQ;rw[Qr (Cw rfl ZN (c.2 12 (f ⟨12,.guard⟩ Zh rfl)))];go_simp
   go_at_call 64;refine HQ.mono ?_;rintro e w1 ⟨rfl,q,rfl⟩;exact j _ _ Zh (c.put rfl ((Chg.refl P []).drewN q))
  |18,d=>
   obtain rfl:=Q5 d;have bX:a.tmps.getD 27 undef= .bool true:=c.2 17 (f ⟨17,.data⟩ Zh rfl);rw[Qr (Cw rfl ZN (c.2 12 (f ⟨12,.guard⟩ Zh rfl)))];go_simp
   exact j _ _ Zh (c.put (by simp[J3]) cR)
  |19,d=>
   obtain rfl:=Q5 d;have bW:a.tmps.getD 22 undef= .bool false:=c.2 12 (f ⟨12,.data⟩ Zh rfl);have bY:a.tmps.getD 28 undef= .bool false:=c.2 18 (f ⟨18,.data⟩ Zh rfl);rw[Qr (by simp[Region.wanted])];go_simp
   exact j _ _ Zh (c.put (by simp[J3]) cR)
  |_+20,d=>exact absurd d Zh
 .intro a wR dd o hd c
  have ao:a.tmps.getD 29 undef= .bool false:=c.2 19 (hd 19 ZM);have V:=UD (Chg X wR []) c.1;have ae:=UD (Chg w wR []) (C.o.trans c.1);clear c hd az;have y:=Y.o;have O:=Z.o;have N:=bs.o;have r:=o.form' [10,11,12,13,14,15,16,17,18,19,20,21,22,23,24,25,26,27,28,29] Yb;have aa:=o.defers;obtain⟨m,df⟩:=a;clear o
  dsimp only at r aa ao
  simp only[List.foldl_cons,List.foldl_nil]at r;rw[ao]at r;obtain⟨u10,aJ⟩:=Ue (m.getD 10 undef)
  obtain⟨u11,aK⟩:=Ue (m.getD 11 undef)
  obtain⟨u12,aL⟩:=Ue (m.getD 12 undef)
  obtain⟨u13,aM⟩:=Ue (m.getD 13 undef)
  obtain⟨u14,aN⟩:=Ue (m.getD 14 undef)
  obtain⟨u15,aO⟩:=Ue (m.getD 15 undef)
  obtain⟨u16,aP⟩:=Ue (m.getD 16 undef)
  obtain⟨u17,aQ⟩:=Ue (m.getD 17 undef)
  obtain⟨u18,aR⟩:=Ue (m.getD 18 undef)
  obtain⟨u19,aS⟩:=Ue (m.getD 19 undef)
  obtain⟨u20,aT⟩:=Ue (m.getD 20 undef)
  obtain⟨u21,aU⟩:=Ue (m.getD 21 undef)
  obtain⟨u22,aV⟩:=Ue (m.getD 22 undef)
  obtain⟨u23,aW⟩:=Ue (m.getD 23 undef)
  obtain⟨u24,aX⟩:=Ue (m.getD 24 undef)
  obtain⟨u25,aY⟩:=Ue (m.getD 25 undef)
  obtain⟨u26,aZ⟩:=Ue (m.getD 26 undef)
  obtain⟨u27,a2⟩:=Ue (m.getD 27 undef)
  obtain⟨u28,a3⟩:=Ue (m.getD 28 undef)
  rw[<-aJ,<-aK,<-aL,<-aM,<-aN,<-aO,<-aP,<-aQ,<-aR,<-aS,<-aT,<-aU,<-aV,<-aW,<-aX,<-aY,<-aZ,<-a2,<-a3]at r;clear aJ aK aL aM aN aO aP aQ aR aS aT aU aV aW aX aY aZ a2 a3 ao;simp only[List.setIfInBounds_toArray,List.set_cons_zero,List.set_cons_succ]at r;subst r;subst aa;by_cases al:AX t=true
  .cases t with
   |null=>
     clear IH ad L M Y Z;simp only[Af]at y O
     injection y with H S
     injection O with e3 e4
     subst H;subst S;subst e3;subst e4
     skip
     have a0:∀(w:Wl),(Instr.typeAssert (nF 214 (nA #[])) 62 136 true).run prog w= .ok (nT #[nP nN,.bool false]) w:=fun _=>Yb
     have a1:∀(w:Wl),(Instr.typeAssert (nF 214 (nA #[])) 62 137 true).run prog w= .ok (nT #[nP nN,.bool false]) w:=fun _=>Yb
     have q:∀(w:Wl),(binOp .eql 62 (nF 214 (nA #[])) (nF 214 (nA #[]))).run prog w= .ok (.bool true) w:=fun w=>Yb
     have A:=D.o.kept V.o;have B:=E.o.kept V.o;have c1:=A.cell 0;have W:=B.cell 0;simp only[Qa]at c1 W;clear D E N A B;go_wp2_with fail
     go_ret
     exact⟨rfl,by exact cg ae.o⟩
   |flag b=>
     clear IH ad L M Y Z;simp only[Af]at y O
     injection y with H S
     injection O with e3 e4
     subst H;subst S;subst e3;subst e4
     skip
     have a0:∀(w:Wl),(Instr.typeAssert (nF 215 (.bool b)) 62 136 true).run prog w= .ok (nT #[nP nN,.bool false]) w:=fun _=>Yb
     have a1:∀(w:Wl),(Instr.typeAssert (nF 215 (.bool b)) 62 137 true).run prog w= .ok (nT #[nP nN,.bool false]) w:=fun _=>Yb
     have q:∀(w:Wl),(binOp .eql 62 (nF 215 (.bool b)) (nF 215 (.bool b))).run prog w= .ok (.bool true) w:=fun w=>by cases b<;>kernel_rfl
     have A:=D.o.kept V.o;have B:=E.o.kept V.o;have c1:=A.cell 0;have W:=B.cell 0;simp only[Qa]at c1 W;clear D E N A B;go_wp2_with fail
     go_ret
     exact⟨rfl,by exact cg ae.o⟩
   |num n=>
     clear IH ad L M Y Z;simp only[Af]at y O
     injection y with H S
     injection O with e3 e4
     subst H;subst S;subst e3;subst e4;have bK:=Rn (by simpa only[Av]using N) (by simpa only[Av]using N:Hs n);have a0:∀(w:Wl),(Instr.typeAssert (nF 219 (.float .f64 n)) 62 136 true).run prog w= .ok (nT #[nP nN,.bool false]) w:=fun _=>Yb
     have a1:∀(w:Wl),(Instr.typeAssert (nF 219 (.float .f64 n)) 62 137 true).run prog w= .ok (nT #[nP nN,.bool false]) w:=fun _=>Yb
     have q:∀(w:Wl),(binOp .eql 62 (nF 219 (.float .f64 n)) (nF 219 (.float .f64 n))).run prog w= .ok (.bool true) w:=fun w=>by rw[O4,bK,decide_eq_true rfl]
     have A:=D.o.kept V.o;have B:=E.o.kept V.o;have c1:=A.cell 0;have W:=B.cell 0;simp only[Qa]at c1 W;clear D E N A B;go_wp2_with fail
     go_ret
     exact⟨rfl,by exact cg ae.o⟩
   |text s=>
     clear IH ad L M Y Z;simp only[Af]at y O
     injection y with H S
     injection O with e3 e4
     subst H;subst S;subst e3;subst e4
     skip
     have a0:∀(w:Wl),(Instr.typeAssert (nF 220 (nG s)) 62 136 true).run prog w= .ok (nT #[nP nN,.bool false]) w:=fun _=>Yb
     have a1:∀(w:Wl),(Instr.typeAssert (nF 220 (nG s)) 62 137 true).run prog w= .ok (nT #[nP nN,.bool false]) w:=fun _=>Yb
     have q:∀(w:Wl),(binOp .eql 62 (nF 220 (nG s)) (nF 220 (nG s))).run prog w= .ok (.bool true) w:=fun w=>by rw[Nt,P0,decide_eq_true rfl]
     have A:=D.o.kept V.o;have B:=E.o.kept V.o;have c1:=A.cell 0;have W:=B.cell 0;simp only[Qa]at c1 W;clear D E N A B;go_wp2_with fail
     go_ret
     exact⟨rfl,by exact cg ae.o⟩
   |list l=>simp[AX]at al
   |obj ks l=>simp[AX]at al
  .obtain⟨p0,o0,p1,a0,a1⟩:∃p0 o0 p1,(∀w,(Instr.typeAssert (nF Q R) 62 136 true).run prog w= .ok (nT #[p0,.bool o0]) w)/\(∀w,(Instr.typeAssert (nF Q R) 62 137 true).run prog w= .ok (nT #[p1,.bool (!o0)]) w):=by
    cases t with
    |list l=>
     simp only[Af]at y;obtain⟨b,sl,vs,H,_⟩:=y
     injection H with H S
     subst H;subst S;exact⟨nP (nM ⟨b,0,nN⟩),true,nP nN,fun _=>Yb,fun _=>Yb⟩
    |obj ks l=>
     simp only[Af]at y;obtain⟨b,sk,sl,vs,H,_⟩:=y
     injection H with H S
     subst H;subst S;exact⟨nP nN,false,nP (nM ⟨b,0,nN⟩),fun _=>Yb,fun _=>Yb⟩
    |_=>simp[AX]at al
   have A:=D.o.kept V.o;have B:=E.o.kept V.o;have c1:=A.cell 0;have W:=B.cell 0;simp only[Qa]at c1 W;have bp:=hZ A;have bq:=hZ B;clear D E N A B y O al ad am an;obtain⟨J,ag⟩:=Ue (World.drew wR)
   have bx:=hZ ag;have ab:Hid (Chg w J []):=by rw[ag];exact hZ ae.o.drew
   have D:Hid (Ac J w.heap.size [nF Q R] 64):=by rw[ag];exact hZ bp.o.drew
   have E:Hid (Ac J (w.heap.size+1) [nF t2 x2] 64):=by rw[ag];exact hZ bq.o.drew
   have ai:=UD (∀b,F b->b<J.heap.size) fun b T=>Q6 (L.o b T) ab.o.size
   have aj:=UD (∀b,G b->b<J.heap.size) fun b T=>Q6 (M.o b T) ab.o.size
   clear ag;cases o0
   all_goals
    simp only[Bool.not_true,Bool.not_false]at a1;go_wp2_with fail
    refine wp_region_any Yb ?_;change wpAny _ _ _ _ _ _ _ (World.drew _);rw[<-bx.o];refine Dg _ (PX (Zw t (nF Q R) (nF t2 x2) F G J) J) Yb ?_ ?_ _ ?_
    .intro ii op a P dd d o bk f aD c K j
     match ii,d with
     |0,d=>
      obtain rfl:=Q5 d;have I:a.tmps.getD 2 undef= nP (nM ⟨w.heap.size,0,nN⟩):=o.at 2 Yb;rw[Qr (by simp[Region.wanted])];refine Bd _ _ rfl _ I 64 _ (D.o.kept c.1) _ underlying64 rfl D3 ?_;exact j _ _ Zh (c.put (by simp[Zw]) cR)
     |1,d=>
      obtain rfl:=Q5 d;have U:a.tmps.getD 43 undef= nA #[nF Q R]:=c.2 0 (f ⟨0,.data⟩ Zh rfl);rw[Qr (by simp[Region.wanted])];go_simp
      go_at_call 66;refine(ID F t _ P (Af.kept ((ab.o.trans c.1).keepsF L.o) (fun _ h=>h) _ _ Y.o) (fun k z=>Q6 (L.o k z) (ab.o.trans c.1).size)).mono ?_;rintro e w1 ⟨sl,vs,rfl,h0,h2,p⟩;exact j _ _ Zh (c.put ⟨vs,h0.backW (c.1.trans p) ai.o,h2.backW (c.1.trans p) ai.o⟩ p)
     |2,d=>
      obtain rfl:=Q5 d;have I:a.tmps.getD 3 undef= nP (nM ⟨w.heap.size+1,0,nN⟩):=o.at 3 Yb;rw[Qr (by simp[Region.wanted])];refine Bd _ _ rfl _ I 64 _ (E.o.kept c.1) _ underlying64 rfl D3 ?_;exact j _ _ Zh (c.put (by simp[Zw]) cR)
     |3,d=>
      obtain rfl:=Q5 d;have U:a.tmps.getD 45 undef= nA #[nF t2 x2]:=c.2 2 (f ⟨2,.data⟩ Zh rfl);rw[Qr (by simp[Region.wanted])];go_simp
      go_at_call 66;refine(ID G t _ P (Af.kept ((ab.o.trans c.1).keepsF M.o) (fun _ h=>h) _ _ Z.o) (fun k z=>Q6 (M.o k z) (ab.o.trans c.1).size)).mono ?_;rintro e w1 ⟨sl,vs,rfl,h0,h2,p⟩;exact j _ _ Zh (c.put ⟨vs,h0.backW (c.1.trans p) aj.o,h2.backW (c.1.trans p) aj.o⟩ p)
     |4,d=>
      obtain rfl:=Q5 d;have g:=c.2 1 (f ⟨1,.data⟩ Zh rfl);obtain⟨s1,U⟩:∃s,a.tmps.getD 44 undef=s:=⟨_,rfl⟩
      change∃vs,Ax _ _ (a.tmps.getD 44 undef) vs/\_ at g;rw[U]at g;go_simp
      exact j _ _ Zh (c.put g cR)
     |5,d=>
      obtain rfl:=Q5 d;have g:=c.2 3 (f ⟨3,.data⟩ Zh rfl);obtain⟨s1,U⟩:∃s,a.tmps.getD 46 undef=s:=⟨_,rfl⟩
      change∃vs,Ax _ _ (a.tmps.getD 46 undef) vs/\_ at g;rw[U]at g;go_simp
      exact j _ _ Zh (c.put g cR)
     |_+6,d=>exact absurd d Zh
    .intro a wS dd o hd c
     have g7:∃vs,Ax J F (a.tmps.getD 7 undef) vs/\Ak J F (Ab t) vs:=c.2 4 (hd 4 ZM)
     have g8:∃vs,Ax J G (a.tmps.getD 8 undef) vs/\Ak J G (Ab t) vs:=c.2 5 (hd 5 ZM)
     have bu:=UD (Chg J wS []) c.1;clear c hd;have r:=o.form' [43,44,45,46,7,8] Yb;have aa:=o.defers;obtain⟨m,df⟩:=a;clear o
     dsimp only at r aa g7 g8
     simp only[List.foldl_cons,List.foldl_nil]at r;obtain⟨u43,a4⟩:=Ue (m.getD 43 undef)
     obtain⟨u44,a5⟩:=Ue (m.getD 44 undef)
     obtain⟨u45,a6⟩:=Ue (m.getD 45 undef)
     obtain⟨u46,a7⟩:=Ue (m.getD 46 undef)
     obtain⟨u7,au⟩:=Ue (m.getD 7 undef)
     obtain⟨u8,av⟩:=Ue (m.getD 8 undef)
     rw[<-a4,<-a5,<-a6,<-a7,<-au,<-av]at r;rw[<-au]at g7;rw[<-av]at g8;clear a4 a5 a6 a7 au av;simp only[List.setIfInBounds_toArray,List.set_cons_zero,List.set_cons_succ]at r;subst r;subst aa;obtain⟨vs,g7,k7⟩:=g7;obtain⟨us,g8,k8⟩:=g8;obtain⟨ca,cc,rfl,aC⟩:=g7.cell;obtain⟨da,dc,rfl,aG⟩:=g8.cell;have bn:=k7.length;have bj:=k8.length;have K7:=hZ k7;have K8:=hZ k8;have bo:=hZ aC;have br:=hZ aG;have bN:=hZ bj;have bw:=hZ bn;have bJ:vs.length<=65536:=by have:=Bj t;have:=bt.o;omega
     rw[show us.length=vs.length from by omega];obtain⟨n,hn⟩:=Ue vs.length
     have HN:=hZ hn;rw[<-hn]at bJ|-;clear g7 g8 k7 k8 aC aG bn bj hn a0 a1 c1 W;go_wp2_with fail
     go_loopw [49] (fun ax wr=>∃i:Nat,i<=n/\ax= nI nX i/\Chg J wr []) (fun ax _=>n-(intOf ax).toNat)
     case atStart=>exact⟨0,Zj,rfl,bu.o⟩
     case round=>
      obtain⟨i,hi,rfl,hg⟩:=hrel;have ay:=hZ hg;clear hg;by_cases ce:i<n
      .obtain⟨x,hx⟩:∃x,(Ab t)[i]? =nM x:=⟨_,Q9 (by have:=bw.o;have:=HN.o;omega)⟩
       obtain⟨va,bl,aq⟩:=K7.o.get i x hx;obtain⟨vb,bm,ar⟩:=K8.o.get i x hx;obtain⟨b1,o1,rfl,bG,aE⟩:=bo.o i va bl;obtain⟨b2,o2,rfl,bH,aF⟩:=br.o i vb bm;obtain⟨ta,xa,rfl⟩:=aq.iface;obtain⟨tb,xb,rfl⟩:=ar.iface;obtain⟨w6,aw⟩:=Ue (World.drew wr)
       have bz:=hZ aw;have ah:Hid (Chg J w6 []):=by rw[aw];exact hZ ay.o.drew
       have C1:=UD (w6.cell? ⟨b1,o1+i,nN⟩=nM (nF ta xa)) (ah.o.keeps aE);have C2:=UD (w6.cell? ⟨b2,o2+i,nN⟩=nM (nF tb xb)) (ah.o.keeps aF)
       have HC:=UD (∀wx,Chg w6 wx []->Cl prog 29 #[nA #[nF ta xa],nA #[nF tb xb]] wx (BU true wx)) fun wx bL=>by
        have ak:=ah.o.trans bL;exact IH.o x _ _ wx (Qi hx) (Af.kept (ak.keepsF ai.o) (fun _ h=>h) _ _ aq) (Af.kept (ak.keepsF aj.o) (fun _ h=>h) _ _ ar) (fun b T=>Q6 (ai.o b T) ak.size) (fun b T=>Q6 (aj.o b T) ak.size)
       clear aw hx bl bm aq ar bG bH aE aF;go_wp2_with fail
       refine wp_region_any Yb ?_;change wpAny _ _ _ _ _ _ _ (World.drew _);rw[<-bz.o];refine Dg _ (PX (Np (nF ta xa) (nF tb xb) (nS (nM ⟨b1,o1,nN⟩) n cc) (nS (nM ⟨b2,o2,nN⟩) n dc) i ⟨b1,o1+i,nN⟩ ⟨b2,o2+i,nN⟩) w6) Yb ?_ ?_ _ ?_
       .intro ii op a P dd d o bk f aD c K j
        match ii,d with
        |0,d=>
         obtain rfl:=Q5 d;have h7:a.tmps.getD 7 undef= nS (nM ⟨b1,o1,nN⟩) n cc:=o.at 7 Yb;go_simp
         exact j _ _ Zh (c.put (by simp[Np]) cR)
        |1,d=>
         obtain rfl:=Q5 d;have h9:a.tmps.getD 9 undef= nI nX i:=o.at 9 Yb;go_simp
         exact j _ _ Zh (c.put (by simp[Np]) cR)
        |2,d=>
         obtain rfl:=Q5 d;have bZ:a.tmps.getD 52 undef= nS (nM ⟨b1,o1,nN⟩) n cc:=c.2 0 (f ⟨0,.data⟩ Zh rfl);have b0:a.tmps.getD 53 undef= nI nX i:=c.2 1 (f ⟨1,.data⟩ Zh rfl);go_simp
         exact j _ _ Zh (c.put (by simp[Np]) cR)
        |3,d=>
         obtain rfl:=Q5 d;have b3:a.tmps.getD 54 undef= nP (nM ⟨b1,o1+i,nN⟩):=c.2 2 (f ⟨2,.data⟩ Zh rfl);have bI:=c.1.keeps C1.o;go_simp
         exact j _ _ Zh (c.put (by simp[Np]) cR)
        |4,d=>
         obtain rfl:=Q5 d;have bE:a.tmps.getD 55 undef= nF ta xa:=c.2 3 (f ⟨3,.data⟩ Zh rfl);have b4:a.tmps[55]?.getD undef= nF ta xa:=by rw[<-Qp];exact bE
         go_simp
         exact j (nA #[nF ta xa]) _ Zh (c.put rfl cR)
        |5,d=>
         obtain rfl:=Q5 d;have h8:a.tmps.getD 8 undef= nS (nM ⟨b2,o2,nN⟩) n dc:=o.at 8 Yb;go_simp
         exact j _ _ Zh (c.put (by simp[Np]) cR)
        |6,d=>
         obtain rfl:=Q5 d;have h9:a.tmps.getD 9 undef= nI nX i:=o.at 9 Yb;go_simp
         exact j _ _ Zh (c.put (by simp[Np]) cR)
        |7,d=>
         obtain rfl:=Q5 d;have b6:a.tmps.getD 57 undef= nS (nM ⟨b2,o2,nN⟩) n dc:=c.2 5 (f ⟨5,.data⟩ Zh rfl);have b7:a.tmps.getD 58 undef= nI nX i:=c.2 6 (f ⟨6,.data⟩ Zh rfl);go_simp
         exact j _ _ Zh (c.put (by simp[Np]) cR)
        |8,d=>
         obtain rfl:=Q5 d;have b8:a.tmps.getD 59 undef= nP (nM ⟨b2,o2+i,nN⟩):=c.2 7 (f ⟨7,.data⟩ Zh rfl);have bI:=c.1.keeps C2.o;go_simp
         exact j _ _ Zh (c.put (by simp[Np]) cR)
        |9,d=>
         obtain rfl:=Q5 d;have bF:a.tmps.getD 60 undef= nF tb xb:=c.2 8 (f ⟨8,.data⟩ Zh rfl);have b9:a.tmps[60]?.getD undef= nF tb xb:=by rw[<-Qp];exact bF
         go_simp
         exact j (nA #[nF tb xb]) _ Zh (c.put rfl cR)
        |10,d=>
         obtain rfl:=Q5 d;have b5:a.tmps.getD 56 undef= nA #[nF ta xa]:=c.2 4 (f ⟨4,.data⟩ Zh rfl);have cb:a.tmps.getD 61 undef= nA #[nF tb xb]:=c.2 9 (f ⟨9,.data⟩ Zh rfl);go_simp
         go_at_call 29;refine(HC.o P c.1).mono ?_;rintro e w1 ⟨rfl,p⟩;exact j _ _ Zh (c.put rfl p)
        |11,d=>
         obtain rfl:=Q5 d;have cd:a.tmps.getD 62 undef= .bool true:=c.2 10 (f ⟨10,.data⟩ Zh rfl);go_simp
         exact j _ _ Zh (c.put (by simp[Np]) cR)
        |_+12,d=>exact absurd d Zh
       .intro a bM dd o hd c
        have ap:a.tmps.getD 63 undef= .bool false:=c.2 11 (hd 11 ZM);have bv:=UD (Chg J bM []) (ah.o.trans c.1);clear c hd;have r:=o.form' [52,53,54,55,56,57,58,59,60,61,62,63] Yb;have aa:=o.defers;obtain⟨m,df⟩:=a;clear o
        dsimp only at r aa ap
        simp only[List.foldl_cons,List.foldl_nil]at r;rw[ap]at r;clear ap;obtain⟨u52,a8⟩:=Ue (m.getD 52 undef)
        obtain⟨u53,a9⟩:=Ue (m.getD 53 undef)
        obtain⟨u54,ba⟩:=Ue (m.getD 54 undef)
        obtain⟨u55,bb⟩:=Ue (m.getD 55 undef)
        obtain⟨u56,bc⟩:=Ue (m.getD 56 undef)
        obtain⟨u57,bd⟩:=Ue (m.getD 57 undef)
        obtain⟨u58,be⟩:=Ue (m.getD 58 undef)
        obtain⟨u59,bf⟩:=Ue (m.getD 59 undef)
        obtain⟨u60,bg⟩:=Ue (m.getD 60 undef)
        obtain⟨u61,bh⟩:=Ue (m.getD 61 undef)
        obtain⟨u62,bi⟩:=Ue (m.getD 62 undef)
        rw[<-a8,<-a9,<-ba,<-bb,<-bc,<-bd,<-be,<-bf,<-bg,<-bh,<-bi]at r;clear a8 a9 ba bb bc bd be bf bg bh bi;simp only[List.setIfInBounds_toArray,List.set_cons_zero,List.set_cons_succ]at r;subst r;subst aa;go_wp2_with fail
        go_roundw
        case rel=>exact⟨i+1,Zj,by go_num,bv.o⟩
        case measure=>simp[intOf];omega
       .exact⟨Chg.refl _ _,fun _ e=>by cases e⟩
      .go_wp2_with fail
       go_ret
       exact⟨rfl,ab.o.trans ay.o⟩
    .exact⟨Chg.refl _ _,fun _ e=>by cases e⟩
 .exact⟨Chg.refl _ _,fun _ e=>by cases e⟩
theorem OL(F G:Nat->Prop)(l f:Nat)(t:Tr)(w:Wl)(C:CG w F l t)(D:CG w G f t)(g:∀b,F b->b<w.heap.size)(i:∀b,G b->b<w.heap.size)(j:Bt t):
  Cl prog 23 #[nP (nM ⟨l,0,nN⟩),nP (nM ⟨f,0,nN⟩)] w (BU true w):=by
 obtain⟨v,x,hi,d⟩:=C;obtain⟨u,s,k,r⟩:=D;have y:=hZ (IG F l v w x hi.iface d);have z:=UD (∀a,Chg w a []->Cl prog 30 #[nP (nM ⟨f,0,nN⟩)] a fun e w'=>e= nR (nA #[u])/\Chg a w' []) fun a c=>IG G f u a (c.keeps s) k.iface (Q6 r c.size)
 have A:=UD (∀a,Chg w a []->Cl prog 29 #[nA #[v],nA #[u]] a (BU true a)) fun a c=>
  XF _ t F G v u a (Q8 _) (Ar j.fits).1 j.good (Af.kept (c.keepsF g) (fun _ h=>h) _ _ hi) (Af.kept (c.keepsF i) (fun _ h=>h) _ _ k) (fun b d=>Q6 (g b d) c.size) (fun b d=>Q6 (i b d) c.size)
 clear x s hi k d r g i j;go_enter func23,ntmps23
 go_wp2_with fail
 refine y.o.mono ?_;rintro e E ⟨rfl,o⟩;have m:=hZ o;clear o;go_wp2_with fail
 refine(z.o E m.o).mono ?_;rintro e w2 ⟨rfl,p⟩;have n:=hZ (m.o.trans p);clear p;go_wp2_with fail
 refine(A.o w2 n.o).mono ?_;rintro e H ⟨rfl,q⟩;have B:=hZ (n.o.trans q);clear q;go_wp2_with fail
 go_ret
 exact⟨rfl,B.o⟩
end
end Go.Proofs.YtkfnkppdhcaeoaaGreatDoor

/- Part 38 of the proof of patchJoined_card. -/
import Derived.Test.YtkfnkppdhcaeoaaGreatDoorM37
set_option maxRecDepth 100000
set_option maxHeartbeats 32000000
set_option linter.unusedSimpArgs false
set_option linter.unusedVariables false
set_option linter.unnecessarySimpa false
namespace Go.Proofs.YtkfnkppdhcaeoaaGreatDoor
open Go renaming Calls->Cl,TypeId->Ti,Value->Vl,World->Wl
section
open _root_.Go.Proofs.Tryz
open Go Go.Shelf Go.RowKit Go.Lib Tree Ptr
theorem Cc.item{w:Wl}{l:List Bq}{xs:List Vl}{b o n c:Nat}(k:As w (.slice (some ⟨b,o,none⟩) n c) 4 l.length xs)(q:0<l.length)(m:Cc w l xs){i:Nat}{s:Bq}(r:l[i]? =some s):
  ∃sv ys,As w sv 6 s.steps.length ys/\Az w s.steps ys/\∀j v,(BJ s sv)[j]? =some v->w.cell? ⟨b,o+i*4+j,none⟩=some v:=by
 obtain⟨sv,ys,f,g,h⟩:=m.get i s r;obtain⟨u,x,e,p⟩:=k.base q (by decide)
 injection e with e
 injection e with a d
 subst a;subst d;exact⟨sv,ys,f,g,fun j v t=>by rw[Nat.add_assoc];exact p _ v (h j v t)⟩
theorem YH(w0:Wl)(W:Nat)(t:Tr)(e:List (List Bq))(v a:Vl)(bs:List Nat)(vs:List Vl)(G:Nat->Prop)(o:Bq)(sv:Vl)(ys:List Vl)(c d b D:Nat)(w:Wl)(g:Br w)(f:10<=w0.heap.size)(z:w0.heap.size<=w.heap.size)(h:PO w0 w W t e v a bs vs G)(i:T7 o)(j:As w sv 6 o.steps.length ys)(k:Az w o.steps ys)(m:Ac w c (BJ o sv) 42)(n:Ac w d [.pointer (some ⟨W,0,none⟩)] 90)(p:Ac w b [.slice (some ⟨D,0,none⟩) 6 6] 161)(q:Ac w D (HJ W) 163)(r:c∉Dj W a bs)(s:d∉Dj W a bs)(u:b∉Dj W a bs)(x:D∉Dj W a bs)(y:vs.length<=65536):
  Cl prog 78 #[.pointer (some ⟨c,0,none⟩),.pointer (some ⟨d,0,none⟩),.pointer (some ⟨b,0,none⟩)] w (CK w0 W t e a bs G o w):=by
 by_cases l:Bn o=0
 .exact Rz w0 W t e v a bs vs G o sv ys c d b D w g f z h i j k m n p q r s u x y l
 .exact Tx w0 W t e v a bs vs G o sv ys c d b D w g f z h i j k m n p q r s u x y l
structure Ha(w4:Wl)(W:Nat)(v:Vl)(n b:Int)(V:Nat->Vl->Prop)(d:Nat->Bool)(f:Nat->Vl)(w:Wl):Prop where
 chg:Chg w4 w [W]
 blk:Ac w W [v,.int .i64 (if d 13 then n else 0),.int .i64 (if d 16 then b else 0),.slice none 0 0] 98
 vals:∀j,d j=true->V j (f j)
theorem Ha.put{g:Wl}{W:Nat}{v:Vl}{n b:Int}{V:Nat->Vl->Prop}{d:Nat->Bool}{f:Nat->Vl}{w w':Wl}{j:Nat}{y:Vl}(h:Ha g W v n b V d f w)(i:j≠13)(l:j≠16)(m:V j y)(a:Chg w w' []):Ha g W v n b V (BA d j) (Eb f j y) w':=
 ⟨h.chg.trans (a.none _),by rw[An d (Ne.symm i),An d (Ne.symm l)];exact h.blk.kept a,fun k c=>by
  by_cases e:k=j
  .subst e;rw[Bf];exact m
  .rw[AA f y e];rw[An d e]at c;exact h.vals k c⟩
theorem Ha.vals'{g:Wl}{W:Nat}{v:Vl}{n b:Int}{V:Nat->Vl->Prop}{d:Nat->Bool}{f:Nat->Vl}{w:Wl}{j:Nat}(h:Ha g W v n b V d f w)(c:V j undef):∀k,BA d j k=true->V k (Eb f j undef k):=fun k a=>by
 by_cases e:k=j
 .subst e;rw[Bf];exact c
 .rw[AA f _ e];rw[An d e]at a;exact h.vals k a
theorem Ha.set1{a:Wl}{W:Nat}{v:Vl}{n b:Int}{V:Nat->Vl->Prop}{d:Nat->Bool}{f:Nat->Vl}{w:Wl}(h:Ha a W v n b V d f w)(c:V 13 undef):Ha a W v n b V (BA d 13) (Eb f 13 undef) (w.setCell ⟨W,1,none⟩ (.int .i64 n)):=
 ⟨h.chg.setCell _ _ (by simp),by rw[BG,An d (by decide)];exact h.blk.set 1 _,h.vals' c⟩
theorem Ha.set2{a:Wl}{W:Nat}{v:Vl}{n b:Int}{V:Nat->Vl->Prop}{d:Nat->Bool}{f:Nat->Vl}{w:Wl}(h:Ha a W v n b V d f w)(c:V 16 undef):Ha a W v n b V (BA d 16) (Eb f 16 undef) (w.setCell ⟨W,2,none⟩ (.int .i64 b)):=
 ⟨h.chg.setCell _ _ (by simp),by rw[BG,An d (by decide)];exact h.blk.set 2 _,h.vals' c⟩
def IS(W:Nat)(v:Vl)(s:Sz)(j:Nat)(y:Vl):Prop:=match j with
 |0=>y= .pointer (some ⟨W,0,none⟩)
 |1=>y= .pointer (some ⟨W,0,none⟩)
 |2=>y= .pointer (some ⟨W,0,none⟩)
 |3=>y= .pointer (some ⟨W,0,none⟩)
 |4=>y= .pointer (some ⟨W,0,none⟩)
 |5=>y=v
 |6=>y=Jv s
 |7=>y=Jv s
 |8=>y= .int .i64 s.nodes
 |9=>y= .int .i64 s.bytes
 |10=>y= .int .i64 s.depth
 |11=>y= .pointer (some ⟨W,0,none⟩)
 |12=>y= .pointer (some ⟨W,1,none⟩)
 |14=>y= .pointer (some ⟨W,0,none⟩)
 |15=>y= .pointer (some ⟨W,2,none⟩)
 |_=>True
def Fb(t:Tr)(b:List Bq)(w:Wl)(e:Ending)(w':Wl):Prop:=(match BR t [] 0 b with
 | .no k i=>e= .returned (.tuple #[.pointer none,.iface 52 (.agg #[.int .i64 k,.int .i64 i])])
 | .yes c u=>∃W a v d bs vs G,e= .returned (.tuple #[.pointer (some ⟨W,0,none⟩),.nilIface])/\PO w w' W c a v d bs vs G/\a.flatten.reverse=u.map CW.toI)/\Chg w w' []
structure V9(w:Wl)(t:Tr)(ops:List Bq)(W WB DB D k:Nat)(t':Tr)(u':List CW)(gs:List (List Bq))(v uv:Vl)(bs:List Nat)(vs:List Vl)(G:Nat->Prop)(wr:Wl):Prop where
 run:BR t [] 0 (ops.take k)= .yes t' u'
 st:PO w wr W t' gs v uv bs vs G
 flat:gs.flatten.reverse=u'.map CW.toI
 len:gs.length=k
 chg:Chg w wr []
 b2:Ac wr WB [.pointer (some ⟨W,0,none⟩)] 90
 b3:Ac wr DB [.slice (some ⟨D,0,none⟩) 6 6] 161
 b4:Ac wr D (HJ W) 163
 n2:WB∉Dj W uv bs
 n3:DB∉Dj W uv bs
 n4:D∉Dj W uv bs
theorem PO.geAll{w0 w:Wl}{W:Nat}{t:Tr}{d:List (List Bq)}{v c:Vl}{bs:List Nat}{vs:List Vl}{G:Nat->Prop}(h:PO w0 w W t d v c bs vs G):∀b,b∈Dj W c bs->w0.heap.size<=b:=by
 intro b a
 rcases Qf.1 a with a|a
 .exact(h.uown b (by simpa using a)).1
 .exact h.ge b a
theorem Uf{t:Tr}{u:List CW}{e:Nat}(h:Kj t u= .no e):e≠0:=by
 unfold Kj at h;split at h
 .cases h
 .injection h with h;omega
theorem Yi{t x:Tr}{ts:List BY}{m:List CW}{e:Nat}(h:Ga t ts x m= .no e):e≠0:=by
 unfold Ga at h;split at h
 .rename_i a;injection h with h;omega
 .exact Uf h
theorem Zq{t:Tr}{o:Bq}{e:Nat}(h:Gz t o= .no e):e≠0:=by
 unfold Gz at h;split at h
 .rename_i a;injection h with h;omega
 .unfold Da at h
  repeat' split at h
  all_goals first
   |exact Yi h
   |exact Uf h
   |(injection h with h;omega)
   |cases h
theorem Wb{a b:Int}(h:By a=By b):a=b:=by
 simpa[By,KN]using h
theorem PP{a:Int}{v:Vl}(h:Ending.returned v=By a):False:=by unfold By at h;cases h
theorem UL{w wr n:Wl}{W:Nat}{t b:Tr}{y:List Bq}{q p D k:Nat}{z:List CW}{d:List (List Bq)}{v c:Vl}{bs:List Nat}{vs:List Vl}{G:Nat->Prop}{o:Bq}{m:Nat}(x:Gz b o= .no m)(hi:V9 w t y W q p D k b z d v c bs vs G wr)(f:Chg wr n []){e:Ending}{w':Wl}(h:GB (fun l e g=>CK w W b d c bs G o l e g) (Dj W c bs) n e w'):
  e= .returned (.int .i64 m)/\Chg w w' []:=by
 obtain⟨l,g,B,r,A,C,s,u,h⟩:=h;have E:=hi.chg.size;have F:=f.size;refine⟨?_,(((hi.chg.trans (f.trans r)).fresh u fun i a=>hi.st.geAll i a)).fresh s fun i a=>by simp at a;omega⟩;unfold CK at h;rw[x]at h
 rcases h with⟨h,_⟩|⟨j,h,rfl⟩
 .exact(PP h.1).elim
 .rw[Wb h.1]
theorem SR{w wr P:Wl}{W:Nat}{t r K:Tr}{q:List Bq}{y x D k:Nat}{L M:List CW}{C:List (List Bq)}{v l:Vl}{bs:List Nat}{vs:List Vl}{G:Nat->Prop}{o:Bq}(F:Gz r o= .yes K M)(U:q[k]? =some o)(hi:V9 w t q W y x D k r L C v l bs vs G wr)(E:Chg wr P []){e:Ending}{w':Wl}(h:GB (fun O e N=>CK w W r C l bs G o O e N) (Dj W l bs) P e w'):
  e= .returned (.int .i64 0)/\∃Q s m g u n,V9 w t q W y x D (k+1) K (M++L) Q s m g u n w':=by
 obtain⟨O,N,B,z,Y,Z,p,A,h⟩:=h;have ab:=hi.chg.size;have ad:=E.size;have ae:=z.size;unfold CK at h;rw[F]at h
 rcases h with⟨⟨_,aa,s,m,g,u,n,V,I,R⟩,rfl⟩|⟨j,h,rfl⟩
 .have S:=hi.st.ltAll
  have J:=E.trans z
  have f:∀{X:Nat} {cs:List Vl} {T:Ti},Ac wr X cs T->X∉Dj W l bs->Ac w' X cs T/\X∉Dj W m g:=fun{X cs T} a H=>by
   have hl:=a.lt;refine⟨((a.kept J).kept A H).kept p (fun d=>by simp at d;omega),fun d=> ?_⟩
   rcases I X d with c|c
   .exact H c
   .omega
  refine⟨rfl,_,s,m,g,u,n,⟨Vu hi.run U F,V.kept p (fun b a=> ?_), ?_,by rw[Qk,hi.len];rfl,((hi.chg.trans J).fresh A fun i a=>hi.st.geAll i a).fresh p fun i a=>by simp at a;omega,(f hi.b2 hi.n2).1,(f hi.b3 hi.n3).1,(f hi.b4 hi.n4).1,(f hi.b2 hi.n2).2,(f hi.b3 hi.n3).2,(f hi.b4 hi.n4).2⟩⟩
  .simp only[Qh,List.not_mem_nil,or_false]at a
   subst a;refine⟨fun d=> ?_,fun d=> ?_⟩
   .rcases I b d with c|c
    .have:=S b c;omega
    .omega
   .rcases R b d with c|c
    .have:=(hi.st.gnew b c).2;omega
    .omega
  .rw[List.flatten_append,List.reverse_append,hi.flat,List.map_append]
   simp
 .exact(PP h.1.symm).elim
theorem Xs(t:Tr)(F:Nat->Prop)(tb:Nat)(A:List Bq)(so:Vl)(xs:List Vl)(w:Wl)(hL:Br w)(a1:10<=w.heap.size)(hT:CG w F tb t)(B:∀b,F b->b<w.heap.size)(aF:Bt t)(hR:As w so 4 A.length xs)(hS:Cc w A xs)(hO:∀o∈A,T7 o)(a5:A.length<=65536):
  Cl prog 43 #[.pointer (some ⟨tb,0,none⟩),so] w (Fb t A w):=by
 obtain⟨sa,sc,rfl,ah,bt⟩:=hR.form;have HV:=hZ (M9 t F tb w hT B (Ar aF.fits).1);have al:=hZ aF;have HL:=hZ hL;have bl:=hZ a1;have HR:=hZ hR;have HS:=hZ hS;have HO:=hZ hO;obtain⟨nl,aI⟩:∃n,n=A.length:=⟨_,rfl⟩
 have an:=hZ aI;rw[<-aI]at a5 hR|-;have HM:=hZ a5;clear hL a1 hT B aF hR hS hO ah bt aI;go_enter func43,ntmps43
 go_wp2_with(first
  |(go_at_call 68;refine HV.o.mono ?_;rintro e w1 ⟨v0,G0,rfl,hv,h1,a2⟩;have H1:=hZ h1;have aU:=hZ hv;have aP:=hZ a2;obtain⟨bO,bP,rfl⟩:=hv.iface;clear h1 hv a2)
  |(go_at_call 76;refine(ab _ t G0 _ w1 (Q8 _) (Ar al.o.fits).1 aU.o (fun b f=>(aP.o b f).2)).mono ?_;rintro e w2 ⟨v,bs,rfl,p1,p2,p3⟩;have P1:=hZ p1;have P2:=hZ p2;have P3:=hZ p3;obtain⟨L,N,rfl⟩:=p1.iface;clear p1 p2 p3))
 obtain⟨W,hW⟩:∃x,x=w2.heap.size:=⟨_,rfl⟩
 obtain⟨z,aC⟩:∃x,x=w2.heap.size+1:=⟨_,rfl⟩
 obtain⟨s,hs⟩:∃s,s=Ag t:=⟨_,rfl⟩
 obtain⟨T,Q⟩:∃y,y=World.drew ((w2.alloc (.cells #[.iface L N,.int .i64 0,.int .i64 0,.slice none 0 0] 98)).alloc (.cells #[.pointer (some ⟨w2.heap.size,0,none⟩)] 90)):=⟨_,rfl⟩
 have aV:=hZ Q;have aX:=hZ hW;have aY:=hZ aC;have h2:Chg w w2 []:=H1.o.trans P3.o;have bv:=h2.size;have bu:=H1.o.size;have H4:Hid (Chg w T []):=by rw[Q];exact hZ (((h2.alloc _).alloc _).drew)
 have aA:Chg w2 T []:=by rw[Q];exact((((Chg.refl w2 []).alloc _).alloc _).drew)
 have aq:∀b,b∈bs->b<W:=fun b f=>by rw[hW];exact AP.lt _ _ _ P1.o b f
 have aO:Hid (Ac T W [.iface L N,.int .i64 0,.int .i64 0,.slice none 0 0] 98):=by rw[Q,hW];exact hZ (((Ac.new w2 _ _).alloc _).drew)
 have U:Hid (Ac T z [.pointer (some ⟨W,0,none⟩)] 90):=by rw[Q,hW,aC];exact hZ ((BD _ _ _ _ _ rfl (by simp)).drew)
 have V:Hid (z∉[W]):=hZ (by simp;omega);have ax:=hZ (P1.o.chg aA (by simp));have ao:Hid (W∉bs):=hZ (fun h=>Nat.lt_irrefl _ (aq W h))
 have aT:Hid (∀C,Chg T C [W]->JB (.iface L N) s C):=hZ fun C S=>by
  rw[hs];exact MD _ t _ bs C (Q8 _) al.o.good al.o.fits (ax.o.chg S (fun b f E=>by simp at f;subst f;exact ao.o E))
 have am:Hid ((W::bs).Nodup/\(∀b,b∈W::bs->w.heap.size<=b)/\z∉W::bs):=hZ ⟨List.nodup_cons.2 ⟨ao.o,P2.o.nodup⟩,fun b f=>by
  rcases Qh.1 f with rfl|f
  .omega
  .have:=P2.o.ge b f;omega,fun E=>by
  rcases Qh.1 E with E|E
  .omega
  .have:=aq _ E;omega⟩
 have aR:=hZ hs;have aW:Hid (w.heap.size<=W):=hZ (by omega);clear Q h2 aA aq bv bu hs;refine wp_region_any (by kernel_rfl) ?_;change wpAny _ _ _ _ _ _ _ (World.drew _);rw[<-aV.o,<-aY.o,<-aX.o];clear hW aC aX aY P1 P2 P3 H1 aU aP aV;refine Dg _ (Ha T W (.iface L N) s.nodes s.bytes (IS W (.iface L N) s)) (by kernel_rfl) ?_ ?_ _ ?_
 .intro ii op a wa dd d B bN r bL c K p
  match ii,d with
  |0,d=>
   obtain rfl:=Q5 d;have h6:a.tmps.getD 6 undef= .pointer (some ⟨z,0,none⟩):=B.at 6 (by kernel_rfl);have ae:=U.o.kept c.chg V.o;have I:=ae.cell 0;simp only[Qa]at I;go_simp
   exact p _ _ (by simp) (c.put (by decide) (by decide) (by simp[IS]) cR)
  |1,d=>
   obtain rfl:=Q5 d;have h6:a.tmps.getD 6 undef= .pointer (some ⟨z,0,none⟩):=B.at 6 (by kernel_rfl);have ae:=U.o.kept c.chg V.o;have I:=ae.cell 0;simp only[Qa]at I;go_simp
   exact p _ _ (by simp) (c.put (by decide) (by decide) (by simp[IS]) cR)
  |2,d=>
   obtain rfl:=Q5 d;have h6:a.tmps.getD 6 undef= .pointer (some ⟨z,0,none⟩):=B.at 6 (by kernel_rfl);have ae:=U.o.kept c.chg V.o;have I:=ae.cell 0;simp only[Qa]at I;go_simp
   exact p _ _ (by simp) (c.put (by decide) (by decide) (by simp[IS]) cR)
  |3,d=>
   obtain rfl:=Q5 d;have bB:a.tmps.getD 26 undef= .pointer (some ⟨W,0,none⟩):=c.vals 2 (r ⟨2,.data⟩ (by simp) rfl);go_simp
   exact p _ _ (by simp) (c.put (by decide) (by decide) (by simp[IS]) cR)
  |4,d=>
   obtain rfl:=Q5 d;have bC:a.tmps.getD 27 undef= .pointer (some ⟨W,0,none⟩):=c.vals 3 (r ⟨3,.data⟩ (by simp) rfl);go_simp
   exact p _ _ (by simp) (c.put (by decide) (by decide) (by simp[IS]) cR)
  |5,d=>
   obtain rfl:=Q5 d;have bD:a.tmps.getD 28 undef= .pointer (some ⟨W,0,none⟩):=c.vals 4 (r ⟨4,.data⟩ (by simp) rfl);have I:=c.blk.cell 0;simp only[Qa]at I;go_simp
   exact p _ _ (by simp) (c.put (by decide) (by decide) (by simp[IS]) cR)
  |6,d=>
   obtain rfl:=Q5 d;have bp:a.tmps.getD 29 undef= .iface L N:=c.vals 5 (r ⟨5,.data⟩ (by simp) rfl);obtain⟨ff,bn,m1,m2⟩:=aT.o wa c.chg;rw[Qr (by simp[Region.wanted])];refine I3 _ _ _ rfl _ bp ff bn m1 _ m2 ?_;rintro e w1 ⟨rfl,h1⟩;exact⟨_,rfl,p _ _ (by simp) (c.put (by decide) (by decide) (by simp[IS]) h1)⟩
  |7,d=>
   obtain rfl:=Q5 d;have bE:a.tmps.getD 30 undef=Jv s:=c.vals 6 (r ⟨6,.data⟩ (by simp) rfl);go_simp
   exact p _ _ (by simp) (c.put (by decide) (by decide) (by simp[IS]) cR)
  |8,d=>
   obtain rfl:=Q5 d;have aa:a.tmps.getD 23 undef=Jv s:=c.vals 7 (r ⟨7,.data⟩ (by simp) rfl);unfold Jv at aa;go_simp
   exact p _ _ (by simp) (c.put (by decide) (by decide) (by simp[IS]) cR)
  |9,d=>
   obtain rfl:=Q5 d;have aa:a.tmps.getD 23 undef=Jv s:=c.vals 7 (r ⟨7,.data⟩ (by simp) rfl);unfold Jv at aa;go_simp
   exact p _ _ (by simp) (c.put (by decide) (by decide) (by simp[IS]) cR)
  |10,d=>
   obtain rfl:=Q5 d;have aa:a.tmps.getD 23 undef=Jv s:=c.vals 7 (r ⟨7,.data⟩ (by simp) rfl);unfold Jv at aa;go_simp
   exact p _ _ (by simp) (c.put (by decide) (by decide) (by simp[IS]) cR)
  |11,d=>
   obtain rfl:=Q5 d;have aA:a.tmps.getD 24 undef= .pointer (some ⟨W,0,none⟩):=c.vals 0 (r ⟨0,.data⟩ (by simp) rfl);go_simp
   exact p _ _ (by simp) (c.put (by decide) (by decide) (by simp[IS]) cR)
  |12,d=>
   obtain rfl:=Q5 d;have bH:a.tmps.getD 34 undef= .pointer (some ⟨W,0,none⟩):=c.vals 11 (r ⟨11,.data⟩ (by simp) rfl);go_simp
   exact p _ _ (by simp) (c.put (by decide) (by decide) (by simp[IS]) cR)
  |13,d=>
   obtain rfl:=Q5 d;have bI:a.tmps.getD 35 undef= .pointer (some ⟨W,1,none⟩):=c.vals 12 (r ⟨12,.data⟩ (by simp) rfl);have bF:a.tmps.getD 31 undef= .int .i64 s.nodes:=c.vals 8 (r ⟨8,.data⟩ (by simp) rfl);have aE:=c.blk.cell 1;simp only[Qa,Qb]at aE;have br:=c.blk.frozen 1;go_simp
   exact p _ _ (by simp) (c.set1 trivial)
  |14,d=>
   obtain rfl:=Q5 d;have bA:a.tmps.getD 25 undef= .pointer (some ⟨W,0,none⟩):=c.vals 1 (r ⟨1,.data⟩ (by simp) rfl);go_simp
   exact p _ _ (by simp) (c.put (by decide) (by decide) (by simp[IS]) cR)
  |15,d=>
   obtain rfl:=Q5 d;have bJ:a.tmps.getD 36 undef= .pointer (some ⟨W,0,none⟩):=c.vals 14 (r ⟨14,.data⟩ (by simp) rfl);go_simp
   exact p _ _ (by simp) (c.put (by decide) (by decide) (by simp[IS]) cR)
  |16,d=>
   obtain rfl:=Q5 d;have bK:a.tmps.getD 37 undef= .pointer (some ⟨W,2,none⟩):=c.vals 15 (r ⟨15,.data⟩ (by simp) rfl);have bG:a.tmps.getD 32 undef= .int .i64 s.bytes:=c.vals 9 (r ⟨9,.data⟩ (by simp) rfl);have aE:=c.blk.cell 2;simp only[Qa,Qb]at aE;have br:=c.blk.frozen 2;go_simp
   exact p _ _ (by simp) (c.set2 trivial)
  |_+17,d=>exact absurd d (by simp)
 .intro a wR dd B y c
  have hB:=c.blk;rw[y 13 (by decide),y 16 (by decide),Qr rfl,Qr rfl]at hB;have av:=hZ hB;have aw:=hZ (U.o.kept c.chg V.o);have aQ:Hid (Chg w wR []):=hZ (H4.o.fresh c.chg (fun i hi=>by simp at hi;subst hi;exact aW.o));have ay:=hZ (ax.o.chg c.chg (fun b f E=>by simp at f;subst f;exact ao.o E));clear c y hB;have af:=B.form' [24,25,26,27,28,29,30,23,31,32,33,34,35,36,37] (by kernel_rfl);have a3:=B.defers;obtain⟨u,df⟩:=a;clear B
  dsimp only at af a3
  simp only[List.foldl_cons,List.foldl_nil]at af;obtain⟨u24,a7⟩:∃x,x=u.getD 24 undef:=⟨_,rfl⟩
  obtain⟨u25,a8⟩:∃x,x=u.getD 25 undef:=⟨_,rfl⟩
  obtain⟨u26,a9⟩:∃x,x=u.getD 26 undef:=⟨_,rfl⟩
  obtain⟨u27,ba⟩:∃x,x=u.getD 27 undef:=⟨_,rfl⟩
  obtain⟨u28,bb⟩:∃x,x=u.getD 28 undef:=⟨_,rfl⟩
  obtain⟨u29,bc⟩:∃x,x=u.getD 29 undef:=⟨_,rfl⟩
  obtain⟨u30,bd⟩:∃x,x=u.getD 30 undef:=⟨_,rfl⟩
  obtain⟨u23,a6⟩:∃x,x=u.getD 23 undef:=⟨_,rfl⟩
  obtain⟨u31,be⟩:∃x,x=u.getD 31 undef:=⟨_,rfl⟩
  obtain⟨u32,bf⟩:∃x,x=u.getD 32 undef:=⟨_,rfl⟩
  obtain⟨u33,bg⟩:∃x,x=u.getD 33 undef:=⟨_,rfl⟩
  obtain⟨u34,bh⟩:∃x,x=u.getD 34 undef:=⟨_,rfl⟩
  obtain⟨u35,bi⟩:∃x,x=u.getD 35 undef:=⟨_,rfl⟩
  obtain⟨u36,bj⟩:∃x,x=u.getD 36 undef:=⟨_,rfl⟩
  obtain⟨u37,bk⟩:∃x,x=u.getD 37 undef:=⟨_,rfl⟩
  rw[<-a7,<-a8,<-a9,<-ba,<-bb,<-bc,<-bd,<-a6,<-be,<-bf,<-bg,<-bh,<-bi,<-bj,<-bk]at af;clear a7 a8 a9 ba bb bc bd a6 be bf bg bh bi bj bk;simp only[List.setIfInBounds_toArray,List.set_cons_zero,List.set_cons_succ]at af;subst af;subst a3;obtain⟨l1,f1,d1⟩:=Ac.cells1 aw.o;clear H4 aO U ax aT;go_wp2_with(go_at_call 77;refine(ZA W _).mono ?_;rintro e w5 ⟨rfl,q1,q2⟩;have Q1:=hZ q1;have Q2:=hZ q2;clear q1 q2)
  obtain⟨D,hD⟩:∃x,x=wR.heap.size:=⟨_,rfl⟩
  obtain⟨X,aB⟩:∃x,x=w5.heap.size:=⟨_,rfl⟩
  obtain⟨w6,aj⟩:∃y,y=w5.alloc (.cells #[.slice (some ⟨wR.heap.size,0,none⟩) 6 6] 161):=⟨_,rfl⟩
  have ad:Chg wR w6 []:=by rw[aj];exact Q2.o.alloc _
  have bw:=Q2.o.size;have aZ:Ac w6 D (HJ W) 163:=by rw[aj,hD];exact Q1.o.alloc _
  have a0:Ac w6 X [.slice (some ⟨D,0,none⟩) 6 6] 161:=by rw[aj,hD,aB];exact BD _ _ _ _ _ rfl rfl
  have aG:∀b,b∈W::bs->b<D:=fun b f=>by
   rw[hD]
   rcases Qh.1 f with rfl|f
   .exact av.o.lt
   .exact AP.lt _ _ _ ay.o b f
  have ap:∀b,b∈Dj W (.slice none 0 0) bs->b∈W::bs:=fun b f=>by simpa[Dj,Vl.ownBlock]using f
  have aS:Hid (V9 w t A W z X D 0 t [] [] (.iface L N) (.slice none 0 0) bs [] (fun _=>False) w6):=hZ ⟨by simp[BR],⟨⟨by rw[<-aR.o];exact av.o.kept ad,ay.o.chg ad (by simp),al.o⟩,am.o.1,am.o.2.1,AK.nil _ _,rfl,fun b f=>f.elim,fun b f h=>h,fun g hg=>by cases hg⟩,
   rfl,rfl,aQ.o.trans ad,aw.o.kept ad,a0,aZ,fun h=>am.o.2.2 (ap _ h),fun h=>by have:=aG _ (ap _ h);omega,fun h=>by have:=aG _ (ap _ h);omega⟩
  rw[<-aj,<-aB,<-hD];clear aj aB hD ad bw aZ a0 aG ap av aw aQ ay l1 f1 d1 Q1 Q2 V ao am aR aW;go_loopw [42] (fun aN wr=>∃(k:Nat) (K:Tr) (u':List CW) (Z:List (List Bq)) (v M:Vl) (bs:List Nat) (vs:List Vl) (G:Nat->Prop),k<=nl/\aN= .int .i64 k/\V9 w t A W z X D k K u' Z v M bs vs G wr) (fun aN _=>nl-(intOf aN).toNat)
  case atStart=>exact⟨0,_,_,_,_,_,_,_,_,by omega,rfl,aS.o⟩
  case round=>
   obtain⟨k,K,u',Z,v,M,Y,vs,G,hk,rfl,a4⟩:=hrel;have l:=hZ a4;clear a4 aS;by_cases aq:k<nl
   .obtain⟨o,d⟩:∃o,A[k]? =some o:=⟨_,Q9 (by have:=an.o;omega)⟩
    obtain⟨b,ob,rfl,_⟩:=HR.o.base (by have:=an.o;omega) (by decide);obtain⟨sv,ys,ar,aK,ah⟩:=Cc.item HR.o (by have:=an.o;omega) HS.o d;obtain⟨aL,aM,rfl,_⟩:=ar.form;have O:∀j x,(BJ o (.slice aL o.steps.length aM))[j]? =some x->wr.cell? ⟨b,ob+k*4+j,none⟩=some x:=fun j x S=>l.o.chg.keeps (ah j x S)
    have c0:=O 0 _ rfl;have c1:=O 1 _ rfl;have c2:=O 2 _ rfl;have c3:=O 3 _ rfl;rw[Nat.add_zero]at c0;obtain⟨wy,R⟩:∃y,y=wr.alloc (.cells #[.int .i64 o.kind,.string o.path,.string o.frm,.slice aL o.steps.length aM] 42):=⟨_,rfl⟩
    have P:Chg wr wy []:=by rw[R];exact(Chg.refl wr []).alloc _
    have aD:Ac wy wr.heap.size (BJ o (.slice aL o.steps.length aM)) 42:=by rw[R];exact BD _ _ _ _ _ rfl rfl
    have aH:wr.heap.size∉Dj W M Y:=fun h=>Nat.lt_irrefl _ (l.o.st.ltAll _ h)
    have aJ:vs.length<=65536:=by have h1:=l.o.st.grp.length;have h2:=l.o.len;omega
    have hc:=Xp 78 #[.pointer (some ⟨wr.heap.size,0,none⟩),.pointer (some ⟨z,0,none⟩),.pointer (some ⟨X,0,none⟩)] (Dj W M Y) wy (fun C e w1=>CK w W K Z M Y G o C e w1)
     (fun b f=>Q6 (l.o.st.ltAll b f) P.size) (fun _=>by kernel_rfl)
     (fun C S=>by
      have ak:=P.trans S;have au:=l.o.chg.trans ak
      exact YH w W K Z v M Y vs G o _ ys _ z X D C (HL.o.kept au) bl.o au.size (l.o.st.kept ak) (HO.o o (Qi d)) (ar.kept au) (Az.kept au aK) (aD.kept S) (l.o.b2.kept ak) (l.o.b3.kept ak) (l.o.b4.kept ak) aH l.o.n2 l.o.n3 l.o.n4 aJ)
     (fun C e w1 J=>by
      unfold CK at J
      cases y:Gz K o with
      |no m=>rw[y]at J;exact⟨J.2,.inr ⟨_,J.1⟩⟩
      |yes t2 un=>rw[y]at J;exact⟨J.2.1,.inl J.1⟩)
    cases y:Gz K o with
    |no m=>
     have H:=hZ (hc.mono fun e w' h=>UL y l.o P h);have ag:BR t [] 0 A= .no m k:=by have:=Us l.o.run d y;rwa[Nat.zero_add]at this
     have az:=hZ ag;have bM:((m:Int) !=0)=true:=by have:=Zq y;rw[bne_iff_ne];omega
     rw[R]at H;clear y hc ag R P aD aH aJ O ah ar aK d;obtain⟨sl,ai⟩:∃q,q=o.steps.length:=⟨_,rfl⟩
     rw[<-ai]at H c3;clear ai;go_wp2_with((go_at_call 49;refine H.o.mono ?_;rintro e w3 ⟨rfl,h3⟩;have H3:=hZ h3;clear h3))
     go_ret2
     unfold Fb;rw[az.o];exact⟨rfl,H3.o⟩
    |yes t2 un=>
     have H:=hZ (hc.mono fun e w' h=>SR y d l.o P h);rw[R]at H;clear y hc R P aD aH aJ O ah ar aK d;obtain⟨sl,ai⟩:∃q,q=o.steps.length:=⟨_,rfl⟩
     rw[<-ai]at H c3;clear ai;go_wp2_with((go_at_call 49;refine H.o.mono ?_;rintro e w3 ⟨rfl,h3⟩;have H3:=hZ h3;clear h3))
     go_roundw
     case rel=>obtain⟨bo,v2,bx,bm,bz,G2,bq⟩:=H3.o;exact⟨k+1,t2,_,bo,v2,bx,bm,bz,G2,by omega,by go_num,bq⟩
     case measure=>simp[intOf];omega
   .obtain rfl:k=nl:=by omega
    have c0:wr.cell? ⟨z,0,none⟩=some (.pointer (some ⟨W,0,none⟩)):=l.o.b2.cell 0;have ag:BR t [] 0 A= .yes K u':=by have:=l.o.run;rwa[an.o,Qn (Q8 _)]at this
    have az:=hZ ag;clear ag;go_wp2_with fail
    go_ret2
    unfold Fb;rw[az.o];exact⟨⟨W,Z,v,M,Y,vs,G,rfl,l.o.st,l.o.flat⟩,l.o.chg⟩
 .exact⟨Chg.refl _ _,aO.o,fun _ e=>by cases e⟩
def Hk(k i:Int):Vl:= .iface 52 (.agg #[.int .i64 k,.int .i64 i])
def V8(r:Zi)(w:Wl)(e:Ending)(w':Wl):Prop:=match r with
 | .no k i=>e= .returned (.tuple #[.pointer none,Hk k i])/\Chg w w' []
 | .yes a _=>F9 a w e w'
structure Yc(w:Wl)(F:Nat->Prop)(tb:Nat)(t:Tr)(ops:List Bq)(so:Vl)(xs:List Vl):Prop where
 laid:Br w
 big:10<=w.heap.size
 tree:CG w F tb t
 lt:∀b,F b->b<w.heap.size
 fine:Bt t
 row:As w so 4 ops.length xs
 at_:Cc w ops xs
 small:∀o∈ops,T7 o
 many:ops.length<=65536
theorem CG.kept{w w':Wl}{F:Nat->Prop}{c:Nat}{t:Tr}(h:CG w F c t)(a:Chg w w' [])(g:∀b,F b->b<w.heap.size):CG w' F c t:=by
 obtain⟨v,d,e,f⟩:=h;exact⟨v,a.keeps d,Af.kept (a.keepsF g) (fun _ h=>h) _ _ e,Q6 f a.size⟩
theorem Yc.kept{w w':Wl}{F:Nat->Prop}{e:Nat}{t:Tr}{c:List Bq}{d:Vl}{xs:List Vl}(h:Yc w F e t c d xs)(a:Chg w w' []):Yc w' F e t c d xs:=
 ⟨h.laid.kept a,Q7 h.big a.size,h.tree.kept a h.lt,fun b f=>Q6 (h.lt b f) a.size,h.fine,h.row.kept a,Cc.kept a h.at_,h.small,h.many⟩
theorem IB(F:Nat->Prop)(p:Nat)(t:Tr)(c:List Bq)(o:Vl)(xs:List Vl)(w:Wl)(h:Yc w F p t c o xs):
  Cl prog 15 #[.pointer (some ⟨p,0,none⟩),o] w (V8 (BR t [] 0 c) w):=by
 have a:=Xs t F p c o xs w h.laid h.big h.tree h.lt h.fine h.row h.at_ h.small h.many;have s:Fb t c w=fun e w'=>Fb t c w e w':=rfl
 unfold Fb at a;obtain⟨P,Q,rfl,_⟩:=h.row.form;obtain⟨O,m⟩:∃n,n=c.length:=⟨_,rfl⟩
 rw[<-m]at a|-
 cases j:BR t [] 0 c with
 |no k i=>
  rw[j]at a;have l:=hZ a;clear a j h m s;go_enter func15,ntmps15
  go_wp2_with((go_at_call 43;refine l.o.mono ?_;rintro e L ⟨rfl,f⟩;have d:=hZ f;clear f))
  go_ret2
  exact⟨rfl,d.o⟩
 |yes R u=>
  rw[j]at a;have l:=hZ a;clear a j h m s;go_enter func15,ntmps15
  go_wp2_with(first
   |(go_at_call 43;refine l.o.mono ?_;rintro e L ⟨⟨W,M,v,T,bs,vs,G,rfl,g,J⟩,f⟩;have d:=hZ f;have q:=hZ g;obtain⟨S,U,rfl⟩:=g.wat.at_.iface;have H:=g.wat.blk.cell 0;simp only[Qa]at H;have N:=g.wat.blk.lt;clear f g J)
   |(go_at_call 44;refine(ZC q.o.wat.fine q.o.wat.at_).mono ?_;rintro e w2 ⟨B,K,rfl,x,y,z,A⟩;have C:=hZ x;have D:=hZ y;have E:=hZ z;have r:=hZ A;clear x y z A))
  go_ret2
  exact⟨B,K,rfl,C.o,D.o,d.o.trans E.o,fun b I=>Q7 d.o.size (r.o.1 b I),Q7 d.o.size r.o.2⟩
theorem Cw{e:Array Oper}{o:Oper}{a:Act}{i:Nat}{b:Bool}{s:Tmp}(g:o.guard=some (i,b))(d:Es e i=some s)(c:a.tmps.getD s undef= .bool b):Region.wanted o (yielded e a.tmps)=true:=by
 unfold Region.wanted;rw[g]
 have f:a.tmps[s]? =some (.bool b):=by
  rw[Qp]at c
  cases h:a.tmps[s]? with
  |none=>rw[h]at c;cases c
  |some x=>rw[h]at c;exact congrArg _ c
 unfold Es at d;simp only[yielded,d,Option.bind_some,f,beq_self_eq_true]
theorem Af.backW{w w':Wl}{F:Nat->Prop}{t:Tr}{v:Vl}(h:Af w' F t v)(d:Chg w w' [])(a:∀k,F k->k<w.heap.size):Af w F t v:=
 h.kept (F:=F) (fun b o c=>((d.cell (p:=⟨b,o,none⟩) (a b c) (by simp))).symm) (fun _ h=>h) _ _
theorem Ax.backW{w w':Wl}{F:Nat->Prop}{a:Vl}{vs:List Vl}(h:Ax w' F a vs)(e:Chg w w' [])(c:∀k,F k->k<w.heap.size):Ax w F a vs:=
 h.kept (F:=F) (fun b o d=>((e.cell (p:=⟨b,o,none⟩) (c b d) (by simp))).symm) (fun _ h=>h)
theorem Ak.backW{w w':Wl}{F:Nat->Prop}{l:List Tr}{vs:List Vl}(h:Ak w' F l vs)(d:Chg w w' [])(a:∀k,F k->k<w.heap.size):Ak w F l vs:=
 Ak.kept (F:=F) (fun b o c=>((d.cell (p:=⟨b,o,none⟩) (a b c) (by simp))).symm) (fun _ h=>h) _ _ h
theorem RX(F:Nat->Prop)(t:Tr)(v:Vl)(w:Wl)(b:Af w F t v)(c:∀k,F k->k<w.heap.size):
  Cl prog 62 #[.agg #[v]] w fun e w'=>e= .returned (.int .i64 (Hj t))/\Chg w w' []:=by
 obtain⟨m,x,rfl⟩:=b.iface;have a:Chg w (w.alloc (.cells #[.iface m x] 64)) []:=(Chg.refl w []).alloc _;obtain⟨f,args,g,d⟩:=Sg t _ (Af.kept (a.keepsF c) (fun _ h=>h) _ _ b);have l:=hZ g;have j:=hZ d;clear b c a g d;go_enter func62,ntmps62
 go_wp2_with(refine Am rfl _ _ _ rfl _ rfl f args l.o _ j.o ?_;rintro e n ⟨rfl,a⟩;refine⟨_,rfl, ?_⟩;have i:=hZ a;clear a)
 go_ret
 exact⟨rfl,((Chg.refl w []).alloc _).trans i.o⟩
theorem D3:(prog.info? 64).map (·.size)=some 1:=by kernel_rfl
def J3(t:Tr)(v u:Vl)(F G:Nat->Prop)(w:Wl)(j:Nat)(y:Vl):Prop:=match j with
 |0=>y= .agg #[v]
 |1=>y= .int .i64 (Hj t)
 |2=>y= .agg #[u]
 |3=>y= .int .i64 (Hj t)
 |4=>y= .bool false
 |5=>y= .bool false
 |6=>y= .agg #[v]
 |7=>y= .int .i64 (Ab t).length
 |8=>y= .agg #[u]
 |9=>y= .int .i64 (Ab t).length
 |10=>y= .bool false
 |11=>y= .bool false
 |12=>y= .bool false
 |13=>y= .agg #[v]
 |14=>Ax w F y (Ad (JN t))
 |15=>y= .agg #[u]
 |16=>Ax w G y (Ad (JN t))
 |17=>y= .bool true
 |18=>y= .bool false
 |_=>y= .bool false
def Zw(t:Tr)(v u:Vl)(F G:Nat->Prop)(w:Wl)(j:Nat)(y:Vl):Prop:=match j with
 |0=>y= .agg #[v]
 |1=>∃vs,Ax w F y vs/\Ak w F (Ab t) vs
 |2=>y= .agg #[u]
 |3=>∃vs,Ax w G y vs/\Ak w G (Ab t) vs
 |4=>∃vs,Ax w F y vs/\Ak w F (Ab t) vs
 |_=>∃vs,Ax w G y vs/\Ak w G (Ab t) vs
def Np(v u:Vl)(c d:Vl)(k:Nat)(a b:Addr)(j:Nat)(y:Vl):Prop:=match j with
 |0=>y=c
 |1=>y= .int .i64 k
 |2=>y= .pointer (some a)
 |3=>y=v
 |4=>y= .agg #[v]
 |5=>y=d
 |6=>y= .int .i64 k
 |7=>y= .pointer (some b)
 |8=>y=u
 |9=>y= .agg #[u]
 |10=>y= .bool true
 |_=>y= .bool false
theorem O4(a b:Nat)(w:Wl):(binOp .eql 62 (.iface 219 (.float .f64 a)) (.iface 219 (.float .f64 b))).run prog w= .ok (.bool (FloatKind.f64.format.order a b==some .eq)) w:=by kernel_rfl
theorem Nt(a b:BY)(w:Wl):(binOp .eql 62 (.iface 220 (.string a)) (.iface 220 (.string b))).run prog w= .ok (.bool (a==b)) w:=by kernel_rfl
theorem XF:∀(k:Nat) (t:Tr) (F G:Nat->Prop) (v u:Vl) (w:Wl),(Ag t).nodes<=k->(Ag t).nodes<=65536->Av t->Af w F t v->Af w G t u->(∀b,F b->b<w.heap.size)->(∀b,G b->b<w.heap.size)->
  Cl prog 29 #[.agg #[v],.agg #[u]] w (BU true w):=by
 intro k
 induction k with
 |zero=>intro t _ _ _ _ _ h;have:=Cv t;omega
 |succ k0 ih=>
 intro t F G v u w A hn O z P o hG
 have aI:∀x vx vy w',x∈Ab t->Af w' F x vx->Af w' G x vy->(∀b,F b->b<w'.heap.size)->(∀b,G b->b<w'.heap.size)->Cl prog 29 #[.agg #[vx],.agg #[vy]] w' (BU true w'):=fun x vx vy w' hx p h2 h3 h4=>by
  obtain⟨i,hi⟩:=List.mem_iff_getElem?.1 hx;have:=CO hi;exact ih x F G vx vy w' (by omega) (by omega) (O.items x hx) p h2 h3 h4
 have IH:=hZ aI;have Z:=hZ z;have aa:=hZ P;have M:=hZ o;have N:=hZ hG;have bu:=hZ hn
 have aJ:(JN t).length<=4294967296:=by
  cases t with
  |obj ks l=>simp only[Av]at O;exact Q7 O.1.many (by omega)
  |_=>simp[JN]
 have ae:=hZ aJ;obtain⟨R,S,rfl⟩:=z.iface;obtain⟨t2,x2,rfl⟩:=P.iface;have bt:=hZ O;clear aI ih A hn O z P o hG aJ;go_enter func29,ntmps29
 go_wp2_with fail
 obtain⟨Y,ag⟩:∃y,y=World.drew ((w.alloc (.cells #[.iface R S] 64)).alloc (.cells #[.iface t2 x2] 64)):=⟨_,rfl⟩
 have aA:=hZ ag;have D:Hid (Chg w Y []):=by rw[ag];exact hZ ((((Chg.refl w []).alloc _).alloc _).drew)
 have E:Hid (Ac Y w.heap.size [.iface R S] 64):=by rw[ag];exact hZ (((Ac.new w [.iface R S] _).alloc _).drew)
 have H:Hid (Ac Y (w.heap.size+1) [.iface t2 x2] 64):=by rw[ag];exact hZ ((BD _ _ _ _ _ rfl (by simp)).drew)
 have an:Hid (∀b,F b->b<Y.heap.size):=hZ fun b U=>Q6 (M.o b U) D.o.size
 have ao:Hid (∀b,G b->b<Y.heap.size):=hZ fun b U=>Q6 (N.o b U) D.o.size
 clear ag;refine wp_region_any (by kernel_rfl) ?_;change wpAny _ _ _ _ _ _ _ (World.drew _);rw[<-aA.o];refine Dg _ (PX (J3 t (.iface R S) (.iface t2 x2) F G Y) Y) (by kernel_rfl) ?_ ?_ _ ?_
 .intro ii op a Q dd d o bl f aE c K j
  match ii,d with
  |0,d=>
   obtain rfl:=Q5 d;have J:a.tmps.getD 2 undef= .pointer (some ⟨w.heap.size,0,none⟩):=o.at 2 (by kernel_rfl);rw[Qr (by simp[Region.wanted])];refine Bd _ _ rfl _ J 64 _ (E.o.kept c.1) _ underlying64 rfl D3 ?_;exact j _ _ (by simp) (c.put (by simp[J3]) cR)
  |1,d=>
   obtain rfl:=Q5 d;have V:a.tmps.getD 10 undef= .agg #[.iface R S]:=c.2 0 (f ⟨0,.data⟩ (by simp) rfl);rw[Qr (by simp[Region.wanted])];go_simp
   go_at_call 62;refine(RX F t _ Q (Af.kept ((D.o.trans c.1).keepsF M.o) (fun _ h=>h) _ _ Z.o) (fun k A=>Q6 (M.o k A) (D.o.trans c.1).size)).mono ?_;rintro e w1 ⟨rfl,p⟩;exact j _ _ (by simp) (c.put rfl p)
  |2,d=>
   obtain rfl:=Q5 d;have J:a.tmps.getD 3 undef= .pointer (some ⟨w.heap.size+1,0,none⟩):=o.at 3 (by kernel_rfl);rw[Qr (by simp[Region.wanted])];refine Bd _ _ rfl _ J 64 _ (H.o.kept c.1) _ underlying64 rfl D3 ?_;exact j _ _ (by simp) (c.put (by simp[J3]) cR)
  |3,d=>
   obtain rfl:=Q5 d;have V:a.tmps.getD 12 undef= .agg #[.iface t2 x2]:=c.2 2 (f ⟨2,.data⟩ (by simp) rfl);rw[Qr (by simp[Region.wanted])];go_simp
   go_at_call 62;refine(RX G t _ Q (Af.kept ((D.o.trans c.1).keepsF N.o) (fun _ h=>h) _ _ aa.o) (fun k A=>Q6 (N.o k A) (D.o.trans c.1).size)).mono ?_;rintro e w1 ⟨rfl,p⟩;exact j _ _ (by simp) (c.put rfl p)
  |4,d=>
   obtain rfl:=Q5 d;have bP:a.tmps.getD 11 undef= .int .i64 (Hj t):=c.2 1 (f ⟨1,.data⟩ (by simp) rfl);have bQ:a.tmps.getD 13 undef= .int .i64 (Hj t):=c.2 3 (f ⟨3,.data⟩ (by simp) rfl);rw[Qr (by simp[Region.wanted])];go_simp
   exact j _ _ (by simp) (c.put (by simp[J3]) cR)
  |5,d=>
   obtain rfl:=Q5 d;have bR:a.tmps.getD 14 undef= .bool false:=c.2 4 (f ⟨4,.data⟩ (by simp) rfl);rw[Qr (by simp[Region.wanted])];go_simp
   exact j _ _ (by simp) (c.put (by simp[J3]) cR)
  |6,d=>
   obtain rfl:=Q5 d;have J:a.tmps.getD 2 undef= .pointer (some ⟨w.heap.size,0,none⟩):=o.at 2 (by kernel_rfl);rw[Qr (Cw rfl (by rfl) (c.2 5 (f ⟨5,.guard⟩ (by simp) rfl)))];refine Bd _ _ rfl _ J 64 _ (E.o.kept c.1) _ underlying64 rfl D3 ?_;exact j _ _ (by simp) (c.put (by simp[J3]) cR)
  |7,d=>
   obtain rfl:=Q5 d;have V:a.tmps.getD 16 undef= .agg #[.iface R S]:=c.2 6 (f ⟨6,.data⟩ (by simp) rfl);rw[Qr (Cw rfl (by rfl) (c.2 5 (f ⟨5,.guard⟩ (by simp) rfl)))];go_simp
   go_at_call 63;refine(Up F t _ Q (Af.kept ((D.o.trans c.1).keepsF M.o) (fun _ h=>h) _ _ Z.o) (fun k A=>Q6 (M.o k A) (D.o.trans c.1).size)).mono ?_;rintro e w1 ⟨rfl,p⟩;exact j _ _ (by simp) (c.put rfl p)
  |8,d=>
   obtain rfl:=Q5 d;have J:a.tmps.getD 3 undef= .pointer (some ⟨w.heap.size+1,0,none⟩):=o.at 3 (by kernel_rfl);rw[Qr (Cw rfl (by rfl) (c.2 5 (f ⟨5,.guard⟩ (by simp) rfl)))];refine Bd _ _ rfl _ J 64 _ (H.o.kept c.1) _ underlying64 rfl D3 ?_;exact j _ _ (by simp) (c.put (by simp[J3]) cR)
  |9,d=>
   obtain rfl:=Q5 d;have V:a.tmps.getD 18 undef= .agg #[.iface t2 x2]:=c.2 8 (f ⟨8,.data⟩ (by simp) rfl);rw[Qr (Cw rfl (by rfl) (c.2 5 (f ⟨5,.guard⟩ (by simp) rfl)))];go_simp
   go_at_call 63;refine(Up G t _ Q (Af.kept ((D.o.trans c.1).keepsF N.o) (fun _ h=>h) _ _ aa.o) (fun k A=>Q6 (N.o k A) (D.o.trans c.1).size)).mono ?_;rintro e w1 ⟨rfl,p⟩;exact j _ _ (by simp) (c.put rfl p)
  |10,d=>
   obtain rfl:=Q5 d;have bT:a.tmps.getD 17 undef= .int .i64 (Ab t).length:=c.2 7 (f ⟨7,.data⟩ (by simp) rfl);have bU:a.tmps.getD 19 undef= .int .i64 (Ab t).length:=c.2 9 (f ⟨9,.data⟩ (by simp) rfl);rw[Qr (Cw rfl (by rfl) (c.2 5 (f ⟨5,.guard⟩ (by simp) rfl)))];go_simp
   exact j _ _ (by simp) (c.put (by simp[J3]) cR)
  |11,d=>
   obtain rfl:=Q5 d;have bS:a.tmps.getD 15 undef= .bool false:=c.2 5 (f ⟨5,.data⟩ (by simp) rfl);have bV:a.tmps.getD 20 undef= .bool false:=c.2 10 (f ⟨10,.data⟩ (by simp) rfl);rw[Qr (by simp[Region.wanted])];go_simp
   exact j _ _ (by simp) (c.put (by simp[J3]) cR)
  |12,d=>
   obtain rfl:=Q5 d;have bW:a.tmps.getD 21 undef= .bool false:=c.2 11 (f ⟨11,.data⟩ (by simp) rfl);rw[Qr (by simp[Region.wanted])];go_simp
   exact j _ _ (by simp) (c.put (by simp[J3]) cR)
  |13,d=>
   obtain rfl:=Q5 d;have J:a.tmps.getD 2 undef= .pointer (some ⟨w.heap.size,0,none⟩):=o.at 2 (by kernel_rfl);rw[Qr (Cw rfl (by rfl) (c.2 12 (f ⟨12,.guard⟩ (by simp) rfl)))];refine Bd _ _ rfl _ J 64 _ (E.o.kept c.1) _ underlying64 rfl D3 ?_;exact j _ _ (by simp) (c.put (by simp[J3]) cR)
  |14,d=>
   obtain rfl:=Q5 d;have V:a.tmps.getD 23 undef= .agg #[.iface R S]:=c.2 13 (f ⟨13,.data⟩ (by simp) rfl);rw[Qr (Cw rfl (by rfl) (c.2 12 (f ⟨12,.guard⟩ (by simp) rfl)))];go_simp
   go_at_call 65;refine(RY F t _ Q (Af.kept ((D.o.trans c.1).keepsF M.o) (fun _ h=>h) _ _ Z.o) (fun k A=>Q6 (M.o k A) (D.o.trans c.1).size)).mono ?_;rintro e w1 ⟨sk,rfl,h0,p⟩;exact j _ _ (by simp) (c.put (h0.backW (c.1.trans p) an.o) p)
  |15,d=>
   obtain rfl:=Q5 d;have J:a.tmps.getD 3 undef= .pointer (some ⟨w.heap.size+1,0,none⟩):=o.at 3 (by kernel_rfl);rw[Qr (Cw rfl (by rfl) (c.2 12 (f ⟨12,.guard⟩ (by simp) rfl)))];refine Bd _ _ rfl _ J 64 _ (H.o.kept c.1) _ underlying64 rfl D3 ?_;exact j _ _ (by simp) (c.put (by simp[J3]) cR)
  |16,d=>
   obtain rfl:=Q5 d;have V:a.tmps.getD 25 undef= .agg #[.iface t2 x2]:=c.2 15 (f ⟨15,.data⟩ (by simp) rfl);rw[Qr (Cw rfl (by rfl) (c.2 12 (f ⟨12,.guard⟩ (by simp) rfl)))];go_simp
   go_at_call 65;refine(RY G t _ Q (Af.kept ((D.o.trans c.1).keepsF N.o) (fun _ h=>h) _ _ aa.o) (fun k A=>Q6 (N.o k A) (D.o.trans c.1).size)).mono ?_;rintro e w1 ⟨sk,rfl,h0,p⟩;exact j _ _ (by simp) (c.put (h0.backW (c.1.trans p) ao.o) p)
  |17,d=>
   obtain rfl:=Q5 d;have bB:=f ⟨14,.data⟩ (by simp) rfl;have bC:=f ⟨16,.data⟩ (by simp) rfl;have aB:Ax Y F (a.tmps.getD 24 undef) (Ad (JN t)):=c.2 14 bB;have aC:Ax Y G (a.tmps.getD 26 undef) (Ad (JN t)):=c.2 16 bC;obtain⟨s1,bD⟩:∃s,a.tmps.getD 24 undef=s:=⟨_,rfl⟩
   obtain⟨s2,bE⟩:∃s,a.tmps.getD 26 undef=s:=⟨_,rfl⟩
   rw[bD]at aB;rw[bE]at aC;have HQ:=Ix (JN t) (JN t) s1 s2 Q (aB.kept (c.1.keepsF an.o) (fun _ h=>h)) (aC.kept (c.1.keepsF ao.o) (fun _ h=>h)) ae.o ae.o;rw[decide_eq_true rfl]at HQ;rw[Qr (Cw rfl (by rfl) (c.2 12 (f ⟨12,.guard⟩ (by simp) rfl)))];go_simp
   go_at_call 64;refine HQ.mono ?_;rintro e w1 ⟨rfl,q,rfl⟩;exact j _ _ (by simp) (c.put rfl ((Chg.refl Q []).drewN q))
  |18,d=>
   obtain rfl:=Q5 d;have bY:a.tmps.getD 27 undef= .bool true:=c.2 17 (f ⟨17,.data⟩ (by simp) rfl);rw[Qr (Cw rfl (by rfl) (c.2 12 (f ⟨12,.guard⟩ (by simp) rfl)))];go_simp
   exact j _ _ (by simp) (c.put (by simp[J3]) cR)
  |19,d=>
   obtain rfl:=Q5 d;have bX:a.tmps.getD 22 undef= .bool false:=c.2 12 (f ⟨12,.data⟩ (by simp) rfl);have bZ:a.tmps.getD 28 undef= .bool false:=c.2 18 (f ⟨18,.data⟩ (by simp) rfl);rw[Qr (by simp[Region.wanted])];go_simp
   exact j _ _ (by simp) (c.put (by simp[J3]) cR)
  |_+20,d=>exact absurd d (by simp)
 .intro a wR dd o hd c
  have ap:a.tmps.getD 29 undef= .bool false:=c.2 19 (hd 19 (by decide));have W:Hid (Chg Y wR []):=hZ c.1;have af:Hid (Chg w wR []):=hZ (D.o.trans c.1);clear c hd aA;have z:=Z.o;have P:=aa.o;have O:=bt.o;have r:=o.form' [10,11,12,13,14,15,16,17,18,19,20,21,22,23,24,25,26,27,28,29] (by kernel_rfl);have ab:=o.defers;obtain⟨m,df⟩:=a;clear o
  dsimp only at r ab ap
  simp only[List.foldl_cons,List.foldl_nil]at r;rw[ap]at r;obtain⟨u10,aK⟩:∃x,x=m.getD 10 undef:=⟨_,rfl⟩
  obtain⟨u11,aL⟩:∃x,x=m.getD 11 undef:=⟨_,rfl⟩
  obtain⟨u12,aM⟩:∃x,x=m.getD 12 undef:=⟨_,rfl⟩
  obtain⟨u13,aN⟩:∃x,x=m.getD 13 undef:=⟨_,rfl⟩
  obtain⟨u14,aO⟩:∃x,x=m.getD 14 undef:=⟨_,rfl⟩
  obtain⟨u15,aP⟩:∃x,x=m.getD 15 undef:=⟨_,rfl⟩
  obtain⟨u16,aQ⟩:∃x,x=m.getD 16 undef:=⟨_,rfl⟩
  obtain⟨u17,aR⟩:∃x,x=m.getD 17 undef:=⟨_,rfl⟩
  obtain⟨u18,aS⟩:∃x,x=m.getD 18 undef:=⟨_,rfl⟩
  obtain⟨u19,aT⟩:∃x,x=m.getD 19 undef:=⟨_,rfl⟩
  obtain⟨u20,aU⟩:∃x,x=m.getD 20 undef:=⟨_,rfl⟩
  obtain⟨u21,aV⟩:∃x,x=m.getD 21 undef:=⟨_,rfl⟩
  obtain⟨u22,aW⟩:∃x,x=m.getD 22 undef:=⟨_,rfl⟩
  obtain⟨u23,aX⟩:∃x,x=m.getD 23 undef:=⟨_,rfl⟩
  obtain⟨u24,aY⟩:∃x,x=m.getD 24 undef:=⟨_,rfl⟩
  obtain⟨u25,aZ⟩:∃x,x=m.getD 25 undef:=⟨_,rfl⟩
  obtain⟨u26,a2⟩:∃x,x=m.getD 26 undef:=⟨_,rfl⟩
  obtain⟨u27,a3⟩:∃x,x=m.getD 27 undef:=⟨_,rfl⟩
  obtain⟨u28,a4⟩:∃x,x=m.getD 28 undef:=⟨_,rfl⟩
  rw[<-aK,<-aL,<-aM,<-aN,<-aO,<-aP,<-aQ,<-aR,<-aS,<-aT,<-aU,<-aV,<-aW,<-aX,<-aY,<-aZ,<-a2,<-a3,<-a4]at r;clear aK aL aM aN aO aP aQ aR aS aT aU aV aW aX aY aZ a2 a3 a4 ap;simp only[List.setIfInBounds_toArray,List.set_cons_zero,List.set_cons_succ]at r;subst r;subst ab;by_cases am:AX t=true
  .cases t with
   |null=>
     clear IH ae M N Z aa;simp only[Af]at z P
     injection z with I T
     injection P with e3 e4
     subst I;subst T;subst e3;subst e4
     skip
     have a0:∀(w:Wl),(Instr.typeAssert (.iface 214 (.agg #[])) 62 136 true).run prog w= .ok (.tuple #[.pointer none,.bool false]) w:=fun _=>by kernel_rfl
     have a1:∀(w:Wl),(Instr.typeAssert (.iface 214 (.agg #[])) 62 137 true).run prog w= .ok (.tuple #[.pointer none,.bool false]) w:=fun _=>by kernel_rfl
     have q:∀(w:Wl),(binOp .eql 62 (.iface 214 (.agg #[])) (.iface 214 (.agg #[]))).run prog w= .ok (.bool true) w:=fun w=>by kernel_rfl
     have B:=E.o.kept W.o;have C:=H.o.kept W.o;have c1:=B.cell 0;have X:=C.cell 0;simp only[Qa]at c1 X;clear E H O B C;go_wp2_with fail
     go_ret
     exact⟨rfl,by exact cg af.o⟩
   |flag b=>
     clear IH ae M N Z aa;simp only[Af]at z P
     injection z with I T
     injection P with e3 e4
     subst I;subst T;subst e3;subst e4
     skip
     have a0:∀(w:Wl),(Instr.typeAssert (.iface 215 (.bool b)) 62 136 true).run prog w= .ok (.tuple #[.pointer none,.bool false]) w:=fun _=>by kernel_rfl
     have a1:∀(w:Wl),(Instr.typeAssert (.iface 215 (.bool b)) 62 137 true).run prog w= .ok (.tuple #[.pointer none,.bool false]) w:=fun _=>by kernel_rfl
     have q:∀(w:Wl),(binOp .eql 62 (.iface 215 (.bool b)) (.iface 215 (.bool b))).run prog w= .ok (.bool true) w:=fun w=>by cases b<;>kernel_rfl
     have B:=E.o.kept W.o;have C:=H.o.kept W.o;have c1:=B.cell 0;have X:=C.cell 0;simp only[Qa]at c1 X;clear E H O B C;go_wp2_with fail
     go_ret
     exact⟨rfl,by exact cg af.o⟩
   |num n=>
     clear IH ae M N Z aa;simp only[Af]at z P
     injection z with I T
     injection P with e3 e4
     subst I;subst T;subst e3;subst e4;have bL:=Rn (by simpa only[Av]using O) (by simpa only[Av]using O:Hs n);have a0:∀(w:Wl),(Instr.typeAssert (.iface 219 (.float .f64 n)) 62 136 true).run prog w= .ok (.tuple #[.pointer none,.bool false]) w:=fun _=>by kernel_rfl
     have a1:∀(w:Wl),(Instr.typeAssert (.iface 219 (.float .f64 n)) 62 137 true).run prog w= .ok (.tuple #[.pointer none,.bool false]) w:=fun _=>by kernel_rfl
     have q:∀(w:Wl),(binOp .eql 62 (.iface 219 (.float .f64 n)) (.iface 219 (.float .f64 n))).run prog w= .ok (.bool true) w:=fun w=>by rw[O4,bL,decide_eq_true rfl]
     have B:=E.o.kept W.o;have C:=H.o.kept W.o;have c1:=B.cell 0;have X:=C.cell 0;simp only[Qa]at c1 X;clear E H O B C;go_wp2_with fail
     go_ret
     exact⟨rfl,by exact cg af.o⟩
   |text s=>
     clear IH ae M N Z aa;simp only[Af]at z P
     injection z with I T
     injection P with e3 e4
     subst I;subst T;subst e3;subst e4
     skip
     have a0:∀(w:Wl),(Instr.typeAssert (.iface 220 (.string s)) 62 136 true).run prog w= .ok (.tuple #[.pointer none,.bool false]) w:=fun _=>by kernel_rfl
     have a1:∀(w:Wl),(Instr.typeAssert (.iface 220 (.string s)) 62 137 true).run prog w= .ok (.tuple #[.pointer none,.bool false]) w:=fun _=>by kernel_rfl
     have q:∀(w:Wl),(binOp .eql 62 (.iface 220 (.string s)) (.iface 220 (.string s))).run prog w= .ok (.bool true) w:=fun w=>by rw[Nt,P0,decide_eq_true rfl]
     have B:=E.o.kept W.o;have C:=H.o.kept W.o;have c1:=B.cell 0;have X:=C.cell 0;simp only[Qa]at c1 X;clear E H O B C;go_wp2_with fail
     go_ret
     exact⟨rfl,by exact cg af.o⟩
   |list l=>simp[AX]at am
   |obj ks l=>simp[AX]at am
  .obtain⟨p0,o0,p1,a0,a1⟩:∃p0 o0 p1,(∀w,(Instr.typeAssert (.iface R S) 62 136 true).run prog w= .ok (.tuple #[p0,.bool o0]) w)/\(∀w,(Instr.typeAssert (.iface R S) 62 137 true).run prog w= .ok (.tuple #[p1,.bool (!o0)]) w):=by
    cases t with
    |list l=>
     simp only[Af]at z;obtain⟨b,sl,vs,I,_⟩:=z
     injection I with I T
     subst I;subst T;exact⟨.pointer (some ⟨b,0,none⟩),true,.pointer none,fun _=>by kernel_rfl,fun _=>by kernel_rfl⟩
    |obj ks l=>
     simp only[Af]at z;obtain⟨b,sk,sl,vs,I,_⟩:=z
     injection I with I T
     subst I;subst T;exact⟨.pointer none,false,.pointer (some ⟨b,0,none⟩),fun _=>by kernel_rfl,fun _=>by kernel_rfl⟩
    |_=>simp[AX]at am
   have B:=E.o.kept W.o;have C:=H.o.kept W.o;have c1:=B.cell 0;have X:=C.cell 0;simp only[Qa]at c1 X;have bq:=hZ B;have br:=hZ C;clear E H O B C z P am ae an ao;obtain⟨L,ah⟩:∃y,y=World.drew wR:=⟨_,rfl⟩
   have bz:=hZ ah;have ad:Hid (Chg w L []):=by rw[ah];exact hZ af.o.drew
   have E:Hid (Ac L w.heap.size [.iface R S] 64):=by rw[ah];exact hZ bq.o.drew
   have H:Hid (Ac L (w.heap.size+1) [.iface t2 x2] 64):=by rw[ah];exact hZ br.o.drew
   have aj:Hid (∀b,F b->b<L.heap.size):=hZ fun b U=>Q6 (M.o b U) ad.o.size
   have ak:Hid (∀b,G b->b<L.heap.size):=hZ fun b U=>Q6 (N.o b U) ad.o.size
   clear ah;cases o0
   all_goals
    simp only[Bool.not_true,Bool.not_false]at a1;go_wp2_with fail
    refine wp_region_any (by kernel_rfl) ?_;change wpAny _ _ _ _ _ _ _ (World.drew _);rw[<-bz.o];refine Dg _ (PX (Zw t (.iface R S) (.iface t2 x2) F G L) L) (by kernel_rfl) ?_ ?_ _ ?_
    .intro ii op a Q dd d o bl f aE c K j
     match ii,d with
     |0,d=>
      obtain rfl:=Q5 d;have J:a.tmps.getD 2 undef= .pointer (some ⟨w.heap.size,0,none⟩):=o.at 2 (by kernel_rfl);rw[Qr (by simp[Region.wanted])];refine Bd _ _ rfl _ J 64 _ (E.o.kept c.1) _ underlying64 rfl D3 ?_;exact j _ _ (by simp) (c.put (by simp[Zw]) cR)
     |1,d=>
      obtain rfl:=Q5 d;have V:a.tmps.getD 43 undef= .agg #[.iface R S]:=c.2 0 (f ⟨0,.data⟩ (by simp) rfl);rw[Qr (by simp[Region.wanted])];go_simp
      go_at_call 66;refine(ID F t _ Q (Af.kept ((ad.o.trans c.1).keepsF M.o) (fun _ h=>h) _ _ Z.o) (fun k A=>Q6 (M.o k A) (ad.o.trans c.1).size)).mono ?_;rintro e w1 ⟨sl,vs,rfl,h0,h2,p⟩;exact j _ _ (by simp) (c.put ⟨vs,h0.backW (c.1.trans p) aj.o,h2.backW (c.1.trans p) aj.o⟩ p)
     |2,d=>
      obtain rfl:=Q5 d;have J:a.tmps.getD 3 undef= .pointer (some ⟨w.heap.size+1,0,none⟩):=o.at 3 (by kernel_rfl);rw[Qr (by simp[Region.wanted])];refine Bd _ _ rfl _ J 64 _ (H.o.kept c.1) _ underlying64 rfl D3 ?_;exact j _ _ (by simp) (c.put (by simp[Zw]) cR)
     |3,d=>
      obtain rfl:=Q5 d;have V:a.tmps.getD 45 undef= .agg #[.iface t2 x2]:=c.2 2 (f ⟨2,.data⟩ (by simp) rfl);rw[Qr (by simp[Region.wanted])];go_simp
      go_at_call 66;refine(ID G t _ Q (Af.kept ((ad.o.trans c.1).keepsF N.o) (fun _ h=>h) _ _ aa.o) (fun k A=>Q6 (N.o k A) (ad.o.trans c.1).size)).mono ?_;rintro e w1 ⟨sl,vs,rfl,h0,h2,p⟩;exact j _ _ (by simp) (c.put ⟨vs,h0.backW (c.1.trans p) ak.o,h2.backW (c.1.trans p) ak.o⟩ p)
     |4,d=>
      obtain rfl:=Q5 d;have g:=c.2 1 (f ⟨1,.data⟩ (by simp) rfl);obtain⟨s1,V⟩:∃s,a.tmps.getD 44 undef=s:=⟨_,rfl⟩
      change∃vs,Ax _ _ (a.tmps.getD 44 undef) vs/\_ at g;rw[V]at g;go_simp
      exact j _ _ (by simp) (c.put g cR)
     |5,d=>
      obtain rfl:=Q5 d;have g:=c.2 3 (f ⟨3,.data⟩ (by simp) rfl);obtain⟨s1,V⟩:∃s,a.tmps.getD 46 undef=s:=⟨_,rfl⟩
      change∃vs,Ax _ _ (a.tmps.getD 46 undef) vs/\_ at g;rw[V]at g;go_simp
      exact j _ _ (by simp) (c.put g cR)
     |_+6,d=>exact absurd d (by simp)
    .intro a wS dd o hd c
     have g7:∃vs,Ax L F (a.tmps.getD 7 undef) vs/\Ak L F (Ab t) vs:=c.2 4 (hd 4 (by decide))
     have g8:∃vs,Ax L G (a.tmps.getD 8 undef) vs/\Ak L G (Ab t) vs:=c.2 5 (hd 5 (by decide))
     have bv:Hid (Chg L wS []):=hZ c.1;clear c hd;have r:=o.form' [43,44,45,46,7,8] (by kernel_rfl);have ab:=o.defers;obtain⟨m,df⟩:=a;clear o
     dsimp only at r ab g7 g8
     simp only[List.foldl_cons,List.foldl_nil]at r;obtain⟨u43,a5⟩:∃x,x=m.getD 43 undef:=⟨_,rfl⟩
     obtain⟨u44,a6⟩:∃x,x=m.getD 44 undef:=⟨_,rfl⟩
     obtain⟨u45,a7⟩:∃x,x=m.getD 45 undef:=⟨_,rfl⟩
     obtain⟨u46,a8⟩:∃x,x=m.getD 46 undef:=⟨_,rfl⟩
     obtain⟨u7,av⟩:∃x,x=m.getD 7 undef:=⟨_,rfl⟩
     obtain⟨u8,aw⟩:∃x,x=m.getD 8 undef:=⟨_,rfl⟩
     rw[<-a5,<-a6,<-a7,<-a8,<-av,<-aw]at r;rw[<-av]at g7;rw[<-aw]at g8;clear a5 a6 a7 a8 av aw;simp only[List.setIfInBounds_toArray,List.set_cons_zero,List.set_cons_succ]at r;subst r;subst ab;obtain⟨vs,g7,k7⟩:=g7;obtain⟨us,g8,k8⟩:=g8;obtain⟨ca,cc,rfl,aD⟩:=g7.cell;obtain⟨da,dc,rfl,aH⟩:=g8.cell;have bo:=k7.length;have bk:=k8.length;have K7:=hZ k7;have K8:=hZ k8;have bp:=hZ aD;have bs:=hZ aH;have bO:=hZ bk;have bx:=hZ bo;have bK:vs.length<=65536:=by have:=Bj t;have:=bu.o;omega
     rw[show us.length=vs.length from by omega];obtain⟨n,hn⟩:∃n,n=vs.length:=⟨_,rfl⟩
     have HN:=hZ hn;rw[<-hn]at bK|-;clear g7 g8 k7 k8 aD aH bo bk hn a0 a1 c1 X;go_wp2_with fail
     go_loopw [49] (fun ay wr=>∃i:Nat,i<=n/\ay= .int .i64 i/\Chg L wr []) (fun ay _=>n-(intOf ay).toNat)
     case atStart=>exact⟨0,by omega,rfl,bv.o⟩
     case round=>
      obtain⟨i,hi,rfl,hg⟩:=hrel;have az:=hZ hg;clear hg;by_cases cf:i<n
      .obtain⟨x,hx⟩:∃x,(Ab t)[i]? =some x:=⟨_,Q9 (by have:=bx.o;have:=HN.o;omega)⟩
       obtain⟨va,bm,ar⟩:=K7.o.get i x hx;obtain⟨vb,bn,au⟩:=K8.o.get i x hx;obtain⟨b1,o1,rfl,bH,aF⟩:=bp.o i va bm;obtain⟨b2,o2,rfl,bI,aG⟩:=bs.o i vb bn;obtain⟨ta,xa,rfl⟩:=ar.iface;obtain⟨tb,xb,rfl⟩:=au.iface;obtain⟨w6,ax⟩:∃y,y=World.drew wr:=⟨_,rfl⟩
       have bA:=hZ ax;have ai:Hid (Chg L w6 []):=by rw[ax];exact hZ az.o.drew
       have C1:Hid (w6.cell? ⟨b1,o1+i,none⟩=some (.iface ta xa)):=hZ (ai.o.keeps aF);have C2:Hid (w6.cell? ⟨b2,o2+i,none⟩=some (.iface tb xb)):=hZ (ai.o.keeps aG)
       have HC:Hid (∀wx,Chg w6 wx []->Cl prog 29 #[.agg #[.iface ta xa],.agg #[.iface tb xb]] wx (BU true wx)):=hZ fun wx bM=>by
        have al:=ai.o.trans bM;exact IH.o x _ _ wx (Qi hx) (Af.kept (al.keepsF aj.o) (fun _ h=>h) _ _ ar) (Af.kept (al.keepsF ak.o) (fun _ h=>h) _ _ au) (fun b U=>Q6 (aj.o b U) al.size) (fun b U=>Q6 (ak.o b U) al.size)
       clear ax hx bm bn ar au bH bI aF aG;go_wp2_with fail
       refine wp_region_any (by kernel_rfl) ?_;change wpAny _ _ _ _ _ _ _ (World.drew _);rw[<-bA.o];refine Dg _ (PX (Np (.iface ta xa) (.iface tb xb) (.slice (some ⟨b1,o1,none⟩) n cc) (.slice (some ⟨b2,o2,none⟩) n dc) i ⟨b1,o1+i,none⟩ ⟨b2,o2+i,none⟩) w6) (by kernel_rfl) ?_ ?_ _ ?_
       .intro ii op a Q dd d o bl f aE c K j
        match ii,d with
        |0,d=>
         obtain rfl:=Q5 d;have h7:a.tmps.getD 7 undef= .slice (some ⟨b1,o1,none⟩) n cc:=o.at 7 (by kernel_rfl);go_simp
         exact j _ _ (by simp) (c.put (by simp[Np]) cR)
        |1,d=>
         obtain rfl:=Q5 d;have h9:a.tmps.getD 9 undef= .int .i64 i:=o.at 9 (by kernel_rfl);go_simp
         exact j _ _ (by simp) (c.put (by simp[Np]) cR)
        |2,d=>
         obtain rfl:=Q5 d;have b0:a.tmps.getD 52 undef= .slice (some ⟨b1,o1,none⟩) n cc:=c.2 0 (f ⟨0,.data⟩ (by simp) rfl);have b3:a.tmps.getD 53 undef= .int .i64 i:=c.2 1 (f ⟨1,.data⟩ (by simp) rfl);go_simp
         exact j _ _ (by simp) (c.put (by simp[Np]) cR)
        |3,d=>
         obtain rfl:=Q5 d;have b4:a.tmps.getD 54 undef= .pointer (some ⟨b1,o1+i,none⟩):=c.2 2 (f ⟨2,.data⟩ (by simp) rfl);have bJ:=c.1.keeps C1.o;go_simp
         exact j _ _ (by simp) (c.put (by simp[Np]) cR)
        |4,d=>
         obtain rfl:=Q5 d;have bF:a.tmps.getD 55 undef= .iface ta xa:=c.2 3 (f ⟨3,.data⟩ (by simp) rfl);have b5:a.tmps[55]?.getD undef= .iface ta xa:=by rw[<-Qp];exact bF
         go_simp
         exact j (.agg #[.iface ta xa]) _ (by simp) (c.put rfl cR)
        |5,d=>
         obtain rfl:=Q5 d;have h8:a.tmps.getD 8 undef= .slice (some ⟨b2,o2,none⟩) n dc:=o.at 8 (by kernel_rfl);go_simp
         exact j _ _ (by simp) (c.put (by simp[Np]) cR)
        |6,d=>
         obtain rfl:=Q5 d;have h9:a.tmps.getD 9 undef= .int .i64 i:=o.at 9 (by kernel_rfl);go_simp
         exact j _ _ (by simp) (c.put (by simp[Np]) cR)
        |7,d=>
         obtain rfl:=Q5 d;have b7:a.tmps.getD 57 undef= .slice (some ⟨b2,o2,none⟩) n dc:=c.2 5 (f ⟨5,.data⟩ (by simp) rfl);have b8:a.tmps.getD 58 undef= .int .i64 i:=c.2 6 (f ⟨6,.data⟩ (by simp) rfl);go_simp
         exact j _ _ (by simp) (c.put (by simp[Np]) cR)
        |8,d=>
         obtain rfl:=Q5 d;have b9:a.tmps.getD 59 undef= .pointer (some ⟨b2,o2+i,none⟩):=c.2 7 (f ⟨7,.data⟩ (by simp) rfl);have bJ:=c.1.keeps C2.o;go_simp
         exact j _ _ (by simp) (c.put (by simp[Np]) cR)
        |9,d=>
         obtain rfl:=Q5 d;have bG:a.tmps.getD 60 undef= .iface tb xb:=c.2 8 (f ⟨8,.data⟩ (by simp) rfl);have cb:a.tmps[60]?.getD undef= .iface tb xb:=by rw[<-Qp];exact bG
         go_simp
         exact j (.agg #[.iface tb xb]) _ (by simp) (c.put rfl cR)
        |10,d=>
         obtain rfl:=Q5 d;have b6:a.tmps.getD 56 undef= .agg #[.iface ta xa]:=c.2 4 (f ⟨4,.data⟩ (by simp) rfl);have cd:a.tmps.getD 61 undef= .agg #[.iface tb xb]:=c.2 9 (f ⟨9,.data⟩ (by simp) rfl);go_simp
         go_at_call 29;refine(HC.o Q c.1).mono ?_;rintro e w1 ⟨rfl,p⟩;exact j _ _ (by simp) (c.put rfl p)
        |11,d=>
         obtain rfl:=Q5 d;have ce:a.tmps.getD 62 undef= .bool true:=c.2 10 (f ⟨10,.data⟩ (by simp) rfl);go_simp
         exact j _ _ (by simp) (c.put (by simp[Np]) cR)
        |_+12,d=>exact absurd d (by simp)
       .intro a bN dd o hd c
        have aq:a.tmps.getD 63 undef= .bool false:=c.2 11 (hd 11 (by decide));have bw:Hid (Chg L bN []):=hZ (ai.o.trans c.1);clear c hd;have r:=o.form' [52,53,54,55,56,57,58,59,60,61,62,63] (by kernel_rfl);have ab:=o.defers;obtain⟨m,df⟩:=a;clear o
        dsimp only at r ab aq
        simp only[List.foldl_cons,List.foldl_nil]at r;rw[aq]at r;clear aq;obtain⟨u52,a9⟩:∃x,x=m.getD 52 undef:=⟨_,rfl⟩
        obtain⟨u53,ba⟩:∃x,x=m.getD 53 undef:=⟨_,rfl⟩
        obtain⟨u54,bb⟩:∃x,x=m.getD 54 undef:=⟨_,rfl⟩
        obtain⟨u55,bc⟩:∃x,x=m.getD 55 undef:=⟨_,rfl⟩
        obtain⟨u56,bd⟩:∃x,x=m.getD 56 undef:=⟨_,rfl⟩
        obtain⟨u57,be⟩:∃x,x=m.getD 57 undef:=⟨_,rfl⟩
        obtain⟨u58,bf⟩:∃x,x=m.getD 58 undef:=⟨_,rfl⟩
        obtain⟨u59,bg⟩:∃x,x=m.getD 59 undef:=⟨_,rfl⟩
        obtain⟨u60,bh⟩:∃x,x=m.getD 60 undef:=⟨_,rfl⟩
        obtain⟨u61,bi⟩:∃x,x=m.getD 61 undef:=⟨_,rfl⟩
        obtain⟨u62,bj⟩:∃x,x=m.getD 62 undef:=⟨_,rfl⟩
        rw[<-a9,<-ba,<-bb,<-bc,<-bd,<-be,<-bf,<-bg,<-bh,<-bi,<-bj]at r;clear a9 ba bb bc bd be bf bg bh bi bj;simp only[List.setIfInBounds_toArray,List.set_cons_zero,List.set_cons_succ]at r;subst r;subst ab;go_wp2_with fail
        go_roundw
        case rel=>exact⟨i+1,by omega,by go_num,bw.o⟩
        case measure=>simp[intOf];omega
       .exact⟨Chg.refl _ _,fun _ e=>by cases e⟩
      .go_wp2_with fail
       go_ret
       exact⟨rfl,ad.o.trans az.o⟩
    .exact⟨Chg.refl _ _,fun _ e=>by cases e⟩
 .exact⟨Chg.refl _ _,fun _ e=>by cases e⟩
theorem OL(F G:Nat->Prop)(l f:Nat)(t:Tr)(w:Wl)(C:CG w F l t)(D:CG w G f t)(g:∀b,F b->b<w.heap.size)(i:∀b,G b->b<w.heap.size)(j:Bt t):
  Cl prog 23 #[.pointer (some ⟨l,0,none⟩),.pointer (some ⟨f,0,none⟩)] w (BU true w):=by
 obtain⟨v,x,hi,d⟩:=C;obtain⟨u,s,k,r⟩:=D;have y:=hZ (IG F l v w x hi.iface d);have z:Hid (∀a,Chg w a []->Cl prog 30 #[.pointer (some ⟨f,0,none⟩)] a fun e w'=>e= .returned (.agg #[u])/\Chg a w' []):=hZ fun a c=>IG G f u a (c.keeps s) k.iface (Q6 r c.size)
 have A:Hid (∀a,Chg w a []->Cl prog 29 #[.agg #[v],.agg #[u]] a (BU true a)):=hZ fun a c=>
  XF _ t F G v u a (Q8 _) (Ar j.fits).1 j.good (Af.kept (c.keepsF g) (fun _ h=>h) _ _ hi) (Af.kept (c.keepsF i) (fun _ h=>h) _ _ k) (fun b d=>Q6 (g b d) c.size) (fun b d=>Q6 (i b d) c.size)
 clear x s hi k d r g i j;go_enter func23,ntmps23
 go_wp2_with fail
 refine y.o.mono ?_;rintro e E ⟨rfl,o⟩;have m:=hZ o;clear o;go_wp2_with fail
 refine(z.o E m.o).mono ?_;rintro e w2 ⟨rfl,p⟩;have n:=hZ (m.o.trans p);clear p;go_wp2_with fail
 refine(A.o w2 n.o).mono ?_;rintro e H ⟨rfl,q⟩;have B:=hZ (n.o.trans q);clear q;go_wp2_with fail
 go_ret
 exact⟨rfl,B.o⟩
end
end Go.Proofs.YtkfnkppdhcaeoaaGreatDoor

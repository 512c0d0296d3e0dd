/- Part 25 of the proof of backBase. -/
import Derived.Test.YtkfnkppdhcaeoaaGreatDoorM24
set_option maxRecDepth 100000
set_option maxHeartbeats 32000000
set_option linter.all false
namespace Go.Proofs.YtkfnkppdhcaeoaaGreatDoor
open Go renaming Calls->Cl,TypeId->Ti,Value->Vl,World->Wl
section
open _root_.Go.Proofs.Tryz
open Go Go.Shelf Go.RowKit Go.Lib Tree Ptr
theorem Cc.item{w:Wl}{l:List Bq}{xs:List Vl}{b o n c:Nat}(k:As w (.slice (some ⟨b,o,none⟩) n c) 4 l.length xs)(q:0<l.length)(m:Cc w l xs){i:Nat}{s:Bq}(r:l[i]? =some s):
  ∃sv ys,As w sv 6 s.steps.length ys/\Az w s.steps ys/\∀j v,(BJ s sv)[j]? =some v->w.cell? ⟨b,o+i*4+j,none⟩=some v:=by
 obtain⟨sv,ys,f,g,h⟩:=m.get i s r;obtain⟨u,x,e,p⟩:=k.base q ZM
 injection e with e
 injection e with a d
 subst a;subst d;exact⟨sv,ys,f,g,fun j v t=>by rw[Nat.add_assoc];exact p _ v (h j v t)⟩
theorem YH(w0:Wl)(W:Nat)(t:Tr)(e:List (List Bq))(v a:Vl)(bs:List Nat)(vs:List Vl)(G:Nat->Prop)(o:Bq)(sv:Vl)(ys:List Vl)(c d b D:Nat)(w:Wl)(g:Br w)(f:10<=w0.heap.size)(z:w0.heap.size<=w.heap.size)(h:PO w0 w W t e v a bs vs G)(i:T7 o)(j:As w sv 6 o.steps.length ys)(k:Az w o.steps ys)(m:Ac w c (BJ o sv) 42)(n:Ac w d [.pointer (some ⟨W,0,none⟩)] 90)(p:Ac w b [.slice (some ⟨D,0,none⟩) 6 6] 161)(q:Ac w D (HJ W) 163)(r:c∉Dj W a bs)(s:d∉Dj W a bs)(u:b∉Dj W a bs)(x:D∉Dj W a bs)(y:vs.length<=65536):
  Cl prog 78 #[.pointer (some ⟨c,0,none⟩),.pointer (some ⟨d,0,none⟩),.pointer (some ⟨b,0,none⟩)] w (CK w0 W t e a bs G o w):=by
 by_cases l:Bn o=0
 .exact Rz w0 W t e v a bs vs G o sv ys c d b D w g f z h i j k m n p q r s u x y l
 .exact Tx w0 W t e v a bs vs G o sv ys c d b D w g f z h i j k m n p q r s u x y l
structure Ha(w4:Wl)(W:Nat)(v:Vl)(n b:Int)(V:Nat->Vl->Prop)(d:Nat->Bool)(f:Nat->Vl)(w:Wl):Prop where
 chg:Chg w4 w [W]
 blk:Ac w W [v,.int .i64 (if d 13 then n else 0),.int .i64 (if d 16 then b else 0),.slice none 0 0] 98
 vals:∀j,d j=true->V j (f j)
theorem Ha.put{g:Wl}{W:Nat}{v:Vl}{n b:Int}{V:Nat->Vl->Prop}{d:Nat->Bool}{f:Nat->Vl}{w w':Wl}{j:Nat}{y:Vl}(h:Ha g W v n b V d f w)(i:j≠13)(l:j≠16)(m:V j y)(a:Chg w w' []):Ha g W v n b V (BA d j) (Eb f j y) w':=
 ⟨h.chg.trans (a.none _),by rw[An d (Ne.symm i),An d (Ne.symm l)];exact h.blk.kept a,fun k c=>by
  by_cases e:k=j
  .subst e;rw[Bf];exact m
  .rw[AA f y e];rw[An d e]at c;exact h.vals k c⟩
theorem Ha.vals'{g:Wl}{W:Nat}{v:Vl}{n b:Int}{V:Nat->Vl->Prop}{d:Nat->Bool}{f:Nat->Vl}{w:Wl}{j:Nat}(h:Ha g W v n b V d f w)(c:V j undef):∀k,BA d j k=true->V k (Eb f j undef k):=fun k a=>by
 by_cases e:k=j
 .subst e;rw[Bf];exact c
 .rw[AA f _ e];rw[An d e]at a;exact h.vals k a
theorem Ha.set1{a:Wl}{W:Nat}{v:Vl}{n b:Int}{V:Nat->Vl->Prop}{d:Nat->Bool}{f:Nat->Vl}{w:Wl}(h:Ha a W v n b V d f w)(c:V 13 undef):Ha a W v n b V (BA d 13) (Eb f 13 undef) (w.setCell ⟨W,1,none⟩ (.int .i64 n)):=
 ⟨h.chg.setCell _ _ Zh,by rw[BG,An d ZM];exact h.blk.set 1 _,h.vals' c⟩
theorem Ha.set2{a:Wl}{W:Nat}{v:Vl}{n b:Int}{V:Nat->Vl->Prop}{d:Nat->Bool}{f:Nat->Vl}{w:Wl}(h:Ha a W v n b V d f w)(c:V 16 undef):Ha a W v n b V (BA d 16) (Eb f 16 undef) (w.setCell ⟨W,2,none⟩ (.int .i64 b)):=
 ⟨h.chg.setCell _ _ Zh,by rw[BG,An d ZM];exact h.blk.set 2 _,h.vals' c⟩
def IS(W:Nat)(v:Vl)(s:Sz)(j:Nat)(y:Vl):Prop:=match j with
 |0=>y= .pointer (some ⟨W,0,none⟩)
 |1=>y= .pointer (some ⟨W,0,none⟩)
 |2=>y= .pointer (some ⟨W,0,none⟩)
 |3=>y= .pointer (some ⟨W,0,none⟩)
 |4=>y= .pointer (some ⟨W,0,none⟩)
 |5=>y=v
 |6=>y=Jv s
 |7=>y=Jv s
 |8=>y= .int .i64 s.nodes
 |9=>y= .int .i64 s.bytes
 |10=>y= .int .i64 s.depth
 |11=>y= .pointer (some ⟨W,0,none⟩)
 |12=>y= .pointer (some ⟨W,1,none⟩)
 |14=>y= .pointer (some ⟨W,0,none⟩)
 |15=>y= .pointer (some ⟨W,2,none⟩)
 |_=>True
def Fb(t:Tr)(b:List Bq)(w:Wl)(e:Ending)(w':Wl):Prop:=(match BR t [] 0 b with
 | .no k i=>e= .returned (.tuple #[.pointer none,.iface 52 (.agg #[.int .i64 k,.int .i64 i])])
 | .yes c u=>∃W a v d bs vs G,e= .returned (.tuple #[.pointer (some ⟨W,0,none⟩),.nilIface])/\PO w w' W c a v d bs vs G/\a.flatten.reverse=u.map CW.toI)/\Chg w w' []
structure V9(w:Wl)(t:Tr)(ops:List Bq)(W WB DB D k:Nat)(t':Tr)(u':List CW)(gs:List (List Bq))(v uv:Vl)(bs:List Nat)(vs:List Vl)(G:Nat->Prop)(wr:Wl):Prop where
 run:BR t [] 0 (ops.take k)= .yes t' u'
 st:PO w wr W t' gs v uv bs vs G
 flat:gs.flatten.reverse=u'.map CW.toI
 len:gs.length=k
 chg:Chg w wr []
 b2:Ac wr WB [.pointer (some ⟨W,0,none⟩)] 90
 b3:Ac wr DB [.slice (some ⟨D,0,none⟩) 6 6] 161
 b4:Ac wr D (HJ W) 163
 n2:WB∉Dj W uv bs
 n3:DB∉Dj W uv bs
 n4:D∉Dj W uv bs
theorem PO.geAll{w0 w:Wl}{W:Nat}{t:Tr}{d:List (List Bq)}{v c:Vl}{bs:List Nat}{vs:List Vl}{G:Nat->Prop}(h:PO w0 w W t d v c bs vs G):∀b,b∈Dj W c bs->w0.heap.size<=b:=by
 intro b a
 rcases Qf.1 a with a|a
 .exact(h.uown b (by simpa using a)).1
 .exact h.ge b a
theorem Uf{t:Tr}{u:List CW}{e:Nat}(h:Kj t u= .no e):e≠0:=by
 unfold Kj at h;split at h
 .cases h
 .injection h with h;omega
theorem Yi{t x:Tr}{ts:List BY}{m:List CW}{e:Nat}(h:Ga t ts x m= .no e):e≠0:=by
 unfold Ga at h;split at h
 .rename_i a;injection h with h;omega
 .exact Uf h
theorem Zq{t:Tr}{o:Bq}{e:Nat}(h:Gz t o= .no e):e≠0:=by
 unfold Gz at h;split at h
 .rename_i a;injection h with h;omega
 .unfold Da at h
  repeat' split at h
  all_goals first
   |exact Yi h
   |exact Uf h
   |(injection h with h;omega)
   |cases h
theorem Wb{a b:Int}(h:By a=By b):a=b:=by
 simpa[By,KN]using h
theorem PP{a:Int}{v:Vl}(h:Ending.returned v=By a):False:=by unfold By at h;cases h
theorem UL{w wr n:Wl}{W:Nat}{t b:Tr}{y:List Bq}{q p D k:Nat}{z:List CW}{d:List (List Bq)}{v c:Vl}{bs:List Nat}{vs:List Vl}{G:Nat->Prop}{o:Bq}{m:Nat}(x:Gz b o= .no m)(hi:V9 w t y W q p D k b z d v c bs vs G wr)(f:Chg wr n []){e:Ending}{w':Wl}(h:GB (fun l e g=>CK w W b d c bs G o l e g) (Dj W c bs) n e w'):
  e= .returned (.int .i64 m)/\Chg w w' []:=by
 obtain⟨l,g,B,r,A,C,s,u,h⟩:=h;have E:=hi.chg.size;have F:=f.size;refine⟨?_,(((hi.chg.trans (f.trans r)).fresh u fun i a=>hi.st.geAll i a)).fresh s fun i a=>by simp at a;omega⟩;unfold CK at h;rw[x]at h
 rcases h with⟨h,_⟩|⟨j,h,rfl⟩
 .exact(PP h.1).elim
 .rw[Wb h.1]
theorem SR{w wr P:Wl}{W:Nat}{t r K:Tr}{q:List Bq}{y x D k:Nat}{L M:List CW}{C:List (List Bq)}{v l:Vl}{bs:List Nat}{vs:List Vl}{G:Nat->Prop}{o:Bq}(F:Gz r o= .yes K M)(U:q[k]? =some o)(hi:V9 w t q W y x D k r L C v l bs vs G wr)(E:Chg wr P []){e:Ending}{w':Wl}(h:GB (fun O e N=>CK w W r C l bs G o O e N) (Dj W l bs) P e w'):
  e= .returned (.int .i64 0)/\∃Q s m g u n,V9 w t q W y x D (k+1) K (M++L) Q s m g u n w':=by
 obtain⟨O,N,B,z,Y,Z,p,A,h⟩:=h;have ab:=hi.chg.size;have ad:=E.size;have ae:=z.size;unfold CK at h;rw[F]at h
 rcases h with⟨⟨_,aa,s,m,g,u,n,V,I,R⟩,rfl⟩|⟨j,h,rfl⟩
 .have S:=hi.st.ltAll
  have J:=E.trans z
  have f:∀{X:Nat} {cs:List Vl} {T:Ti},Ac wr X cs T->X∉Dj W l bs->Ac w' X cs T/\X∉Dj W m g:=fun{X cs T} a H=>by
   have hl:=a.lt;refine⟨((a.kept J).kept A H).kept p (fun d=>by simp at d;omega),fun d=> ?_⟩
   rcases I X d with c|c
   .exact H c
   .omega
  refine⟨rfl,_,s,m,g,u,n,⟨Vu hi.run U F,V.kept p (fun b a=> ?_), ?_,by rw[Qk,hi.len];rfl,((hi.chg.trans J).fresh A fun i a=>hi.st.geAll i a).fresh p fun i a=>by simp at a;omega,(f hi.b2 hi.n2).1,(f hi.b3 hi.n3).1,(f hi.b4 hi.n4).1,(f hi.b2 hi.n2).2,(f hi.b3 hi.n3).2,(f hi.b4 hi.n4).2⟩⟩
  .simp only[Qh,List.not_mem_nil,or_false]at a
   subst a;refine⟨fun d=> ?_,fun d=> ?_⟩
   .rcases I b d with c|c
    .have:=S b c;omega
    .omega
   .rcases R b d with c|c
    .have:=(hi.st.gnew b c).2;omega
    .omega
  .rw[List.flatten_append,List.reverse_append,hi.flat,List.map_append]
   simp
 .exact(PP h.1.symm).elim
theorem Xs(t:Tr)(F:Nat->Prop)(tb:Nat)(y:List Bq)(so:Vl)(xs:List Vl)(w:Wl)(hL:Br w)(a0:10<=w.heap.size)(hT:CG w F tb t)(z:∀b,F b->b<w.heap.size)(aE:Bt t)(hR:As w so 4 y.length xs)(hS:Cc w y xs)(hO:∀o∈y,T7 o)(a4:y.length<=65536):
  Cl prog 43 #[.pointer (some ⟨tb,0,none⟩),so] w (Fb t y w):=by
 obtain⟨sa,sc,rfl,ag,br⟩:=hR.form;have HV:=hZ (M9 t F tb w hT z (Ar aE.fits).1);have ak:=hZ aE;have HL:=hZ hL;have bk:=hZ a0;have HR:=hZ hR;have HS:=hZ hS;have HO:=hZ hO;obtain⟨nl,aH⟩:=Ue y.length
 have am:=hZ aH;rw[<-aH]at a4 hR|-;have HM:=hZ a4;clear hL a0 hT z aE hR hS hO ag br aH;go_enter func43,ntmps43
 go_wp2_with(first
  |(go_at_call 68;refine HV.o.mono ?_;rintro e w1 ⟨v0,G0,rfl,hv,Y,a1⟩;have H1:=hZ Y;have aT:=hZ hv;have aO:=hZ a1;obtain⟨bN,bO,rfl⟩:=hv.iface;clear Y hv a1)
  |(go_at_call 76;refine(ab _ t G0 _ w1 (Q8 _) (Ar ak.o.fits).1 aT.o (fun b f=>(aO.o b f).2)).mono ?_;rintro e w2 ⟨v,bs,rfl,p1,p2,p3⟩;have P1:=hZ p1;have P2:=hZ p2;have P3:=hZ p3;obtain⟨J,L,rfl⟩:=p1.iface;clear p1 p2 p3))
 obtain⟨W,hW⟩:=Ue w2.heap.size
 obtain⟨u,aB⟩:=Ue (w2.heap.size+1)
 obtain⟨s,hs⟩:=Ue (Ag t)
 obtain⟨R,O⟩:=Ue (World.drew ((w2.alloc (.cells #[.iface J L,.int .i64 0,.int .i64 0,.slice none 0 0] 98)).alloc (.cells #[.pointer (some ⟨w2.heap.size,0,none⟩)] 90)))
 have aU:=hZ O;have aW:=hZ hW;have aX:=hZ aB;have h2:Chg w w2 []:=H1.o.trans P3.o;have bu:=h2.size;have bt:=H1.o.size;have H4:Hid (Chg w R []):=by rw[O];exact hZ (((h2.alloc _).alloc _).drew)
 have az:Chg w2 R []:=by rw[O];exact((((Chg.refl w2 []).alloc _).alloc _).drew)
 have ap:∀b,b∈bs->b<W:=fun b f=>by rw[hW];exact AP.lt _ _ _ P1.o b f
 have aN:Hid (Ac R W [.iface J L,.int .i64 0,.int .i64 0,.slice none 0 0] 98):=by rw[O,hW];exact hZ (((Ac.new w2 _ _).alloc _).drew)
 have S:Hid (Ac R u [.pointer (some ⟨W,0,none⟩)] 90):=by rw[O,hW,aB];exact hZ ((BD _ _ _ _ _ rfl Zh).drew)
 have T:=UD (u∉[W]) (by simp;omega);have aw:=hZ (P1.o.chg az Zh);have an:=UD (W∉bs) (fun h=>Nat.lt_irrefl _ (ap W h))
 have aS:=UD (∀A,Chg R A [W]->JB (.iface J L) s A) fun A Q=>by
  rw[hs];exact MD _ t _ bs A (Q8 _) ak.o.good ak.o.fits (aw.o.chg Q (fun b f B=>by simp at f;subst f;exact an.o B))
 have al:=UD ((W::bs).Nodup/\(∀b,b∈W::bs->w.heap.size<=b)/\u∉W::bs) ⟨List.nodup_cons.2 ⟨an.o,P2.o.nodup⟩,fun b f=>by
  rcases Qh.1 f with rfl|f
  .omega
  .have:=P2.o.ge b f;omega,fun B=>by
  rcases Qh.1 B with B|B
  .omega
  .have:=ap _ B;omega⟩
 have aQ:=hZ hs;have aV:=UD (w.heap.size<=W) Zj;clear O h2 az ap bu bt hs;refine wp_region_any Yb ?_;change wpAny _ _ _ _ _ _ _ (World.drew _);rw[<-aU.o,<-aX.o,<-aW.o];clear hW aB aW aX P1 P2 P3 H1 aT aO aU;refine Dg _ (Ha R W (.iface J L) s.nodes s.bytes (IS W (.iface J L) s)) Yb ?_ ?_ _ ?_
 .intro ii op a wa dd d z bM p bK c K n
  match ii,d with
  |0,d=>
   obtain rfl:=Q5 d;have h6:a.tmps.getD 6 undef= .pointer (some ⟨u,0,none⟩):=z.at 6 Yb;have ad:=S.o.kept c.chg T.o;have E:=ad.cell 0;simp only[Qa]at E;go_simp
   exact n _ _ Zh (c.put ZM ZM (by simp[IS]) cR)
  |1,d=>
   obtain rfl:=Q5 d;have h6:a.tmps.getD 6 undef= .pointer (some ⟨u,0,none⟩):=z.at 6 Yb;have ad:=S.o.kept c.chg T.o;have E:=ad.cell 0;simp only[Qa]at E;go_simp
   exact n _ _ Zh (c.put ZM ZM (by simp[IS]) cR)
  |2,d=>
   obtain rfl:=Q5 d;have h6:a.tmps.getD 6 undef= .pointer (some ⟨u,0,none⟩):=z.at 6 Yb;have ad:=S.o.kept c.chg T.o;have E:=ad.cell 0;simp only[Qa]at E;go_simp
   exact n _ _ Zh (c.put ZM ZM (by simp[IS]) cR)
  |3,d=>
   obtain rfl:=Q5 d;have bA:a.tmps.getD 26 undef= .pointer (some ⟨W,0,none⟩):=c.vals 2 (p ⟨2,.data⟩ Zh rfl);go_simp
   exact n _ _ Zh (c.put ZM ZM (by simp[IS]) cR)
  |4,d=>
   obtain rfl:=Q5 d;have bB:a.tmps.getD 27 undef= .pointer (some ⟨W,0,none⟩):=c.vals 3 (p ⟨3,.data⟩ Zh rfl);go_simp
   exact n _ _ Zh (c.put ZM ZM (by simp[IS]) cR)
  |5,d=>
   obtain rfl:=Q5 d;have bC:a.tmps.getD 28 undef= .pointer (some ⟨W,0,none⟩):=c.vals 4 (p ⟨4,.data⟩ Zh rfl);have E:=c.blk.cell 0;simp only[Qa]at E;go_simp
   exact n _ _ Zh (c.put ZM ZM (by simp[IS]) cR)
  |6,d=>
   obtain rfl:=Q5 d;have bo:a.tmps.getD 29 undef= .iface J L:=c.vals 5 (p ⟨5,.data⟩ Zh rfl);obtain⟨ff,bm,m1,m2⟩:=aS.o wa c.chg;rw[Qr (by simp[Region.wanted])];refine I3 _ _ _ rfl _ bo ff bm m1 _ m2 ?_;rintro e w1 ⟨rfl,Y⟩;exact⟨_,rfl,n _ _ Zh (c.put ZM ZM (by simp[IS]) Y)⟩
  |7,d=>
   obtain rfl:=Q5 d;have bD:a.tmps.getD 30 undef=Jv s:=c.vals 6 (p ⟨6,.data⟩ Zh rfl);go_simp
   exact n _ _ Zh (c.put ZM ZM (by simp[IS]) cR)
  |8,d=>
   obtain rfl:=Q5 d;have Z:a.tmps.getD 23 undef=Jv s:=c.vals 7 (p ⟨7,.data⟩ Zh rfl);unfold Jv at Z;go_simp
   exact n _ _ Zh (c.put ZM ZM (by simp[IS]) cR)
  |9,d=>
   obtain rfl:=Q5 d;have Z:a.tmps.getD 23 undef=Jv s:=c.vals 7 (p ⟨7,.data⟩ Zh rfl);unfold Jv at Z;go_simp
   exact n _ _ Zh (c.put ZM ZM (by simp[IS]) cR)
  |10,d=>
   obtain rfl:=Q5 d;have Z:a.tmps.getD 23 undef=Jv s:=c.vals 7 (p ⟨7,.data⟩ Zh rfl);unfold Jv at Z;go_simp
   exact n _ _ Zh (c.put ZM ZM (by simp[IS]) cR)
  |11,d=>
   obtain rfl:=Q5 d;have az:a.tmps.getD 24 undef= .pointer (some ⟨W,0,none⟩):=c.vals 0 (p ⟨0,.data⟩ Zh rfl);go_simp
   exact n _ _ Zh (c.put ZM ZM (by simp[IS]) cR)
  |12,d=>
   obtain rfl:=Q5 d;have bG:a.tmps.getD 34 undef= .pointer (some ⟨W,0,none⟩):=c.vals 11 (p ⟨11,.data⟩ Zh rfl);go_simp
   exact n _ _ Zh (c.put ZM ZM (by simp[IS]) cR)
  |13,d=>
   obtain rfl:=Q5 d;have bH:a.tmps.getD 35 undef= .pointer (some ⟨W,1,none⟩):=c.vals 12 (p ⟨12,.data⟩ Zh rfl);have bE:a.tmps.getD 31 undef= .int .i64 s.nodes:=c.vals 8 (p ⟨8,.data⟩ Zh rfl);have aD:=c.blk.cell 1;simp only[Qa,Qb]at aD;have bq:=c.blk.frozen 1;go_simp
   exact n _ _ Zh (c.set1 trivial)
  |14,d=>
   obtain rfl:=Q5 d;have bz:a.tmps.getD 25 undef= .pointer (some ⟨W,0,none⟩):=c.vals 1 (p ⟨1,.data⟩ Zh rfl);go_simp
   exact n _ _ Zh (c.put ZM ZM (by simp[IS]) cR)
  |15,d=>
   obtain rfl:=Q5 d;have bI:a.tmps.getD 36 undef= .pointer (some ⟨W,0,none⟩):=c.vals 14 (p ⟨14,.data⟩ Zh rfl);go_simp
   exact n _ _ Zh (c.put ZM ZM (by simp[IS]) cR)
  |16,d=>
   obtain rfl:=Q5 d;have bJ:a.tmps.getD 37 undef= .pointer (some ⟨W,2,none⟩):=c.vals 15 (p ⟨15,.data⟩ Zh rfl);have bF:a.tmps.getD 32 undef= .int .i64 s.bytes:=c.vals 9 (p ⟨9,.data⟩ Zh rfl);have aD:=c.blk.cell 2;simp only[Qa,Qb]at aD;have bq:=c.blk.frozen 2;go_simp
   exact n _ _ Zh (c.set2 trivial)
  |_+17,d=>exact absurd d Zh
 .intro a wR dd z r c
  have hB:=c.blk;rw[r 13 ZM,r 16 ZM,Qr rfl,Qr rfl]at hB;have au:=hZ hB;have av:=hZ (S.o.kept c.chg T.o);have aP:=UD (Chg w wR []) (H4.o.fresh c.chg (fun i hi=>by simp at hi;subst hi;exact aV.o));have ax:=hZ (aw.o.chg c.chg (fun b f B=>by simp at f;subst f;exact an.o B));clear c r hB;have ae:=z.form' [24,25,26,27,28,29,30,23,31,32,33,34,35,36,37] Yb;have a2:=z.defers;obtain⟨q,df⟩:=a;clear z
  dsimp only at ae a2
  simp only[List.foldl_cons,List.foldl_nil]at ae;obtain⟨u24,a6⟩:=Ue (q.getD 24 undef)
  obtain⟨u25,a7⟩:=Ue (q.getD 25 undef)
  obtain⟨u26,a8⟩:=Ue (q.getD 26 undef)
  obtain⟨u27,a9⟩:=Ue (q.getD 27 undef)
  obtain⟨u28,ba⟩:=Ue (q.getD 28 undef)
  obtain⟨u29,bb⟩:=Ue (q.getD 29 undef)
  obtain⟨u30,bc⟩:=Ue (q.getD 30 undef)
  obtain⟨u23,a5⟩:=Ue (q.getD 23 undef)
  obtain⟨u31,bd⟩:=Ue (q.getD 31 undef)
  obtain⟨u32,be⟩:=Ue (q.getD 32 undef)
  obtain⟨u33,bf⟩:=Ue (q.getD 33 undef)
  obtain⟨u34,bg⟩:=Ue (q.getD 34 undef)
  obtain⟨u35,bh⟩:=Ue (q.getD 35 undef)
  obtain⟨u36,bi⟩:=Ue (q.getD 36 undef)
  obtain⟨u37,bj⟩:=Ue (q.getD 37 undef)
  rw[<-a6,<-a7,<-a8,<-a9,<-ba,<-bb,<-bc,<-a5,<-bd,<-be,<-bf,<-bg,<-bh,<-bi,<-bj]at ae;clear a6 a7 a8 a9 ba bb bc a5 bd be bf bg bh bi bj;simp only[List.setIfInBounds_toArray,List.set_cons_zero,List.set_cons_succ]at ae;subst ae;subst a2;obtain⟨l1,f1,d1⟩:=Ac.cells1 av.o;clear H4 aN S aw aS;go_wp2_with(go_at_call 77;refine(ZA W _).mono ?_;rintro e w5 ⟨rfl,q1,q2⟩;have Q1:=hZ q1;have Q2:=hZ q2;clear q1 q2)
  obtain⟨D,hD⟩:=Ue wR.heap.size
  obtain⟨U,aA⟩:=Ue w5.heap.size
  obtain⟨w6,ai⟩:=Ue (w5.alloc (.cells #[.slice (some ⟨wR.heap.size,0,none⟩) 6 6] 161))
  have aa:Chg wR w6 []:=by rw[ai];exact Q2.o.alloc _
  have bv:=Q2.o.size;have aY:Ac w6 D (HJ W) 163:=by rw[ai,hD];exact Q1.o.alloc _
  have aZ:Ac w6 U [.slice (some ⟨D,0,none⟩) 6 6] 161:=by rw[ai,hD,aA];exact BD _ _ _ _ _ rfl rfl
  have aF:∀b,b∈W::bs->b<D:=fun b f=>by
   rw[hD]
   rcases Qh.1 f with rfl|f
   .exact au.o.lt
   .exact AP.lt _ _ _ ax.o b f
  have ao:∀b,b∈Dj W (.slice none 0 0) bs->b∈W::bs:=fun b f=>by simpa[Dj,Vl.ownBlock]using f
  have aR:=UD (V9 w t y W u U D 0 t [] [] (.iface J L) (.slice none 0 0) bs [] (fun _=>False) w6) ⟨by simp[BR],⟨⟨by rw[<-aQ.o];exact au.o.kept aa,ax.o.chg aa Zh,ak.o⟩,al.o.1,al.o.2.1,AK.nil _ _,rfl,fun b f=>f.elim,fun b f h=>h,fun g hg=>by cases hg⟩,
   rfl,rfl,aP.o.trans aa,av.o.kept aa,aZ,aY,fun h=>al.o.2.2 (ao _ h),fun h=>by have:=aF _ (ao _ h);omega,fun h=>by have:=aF _ (ao _ h);omega⟩
  rw[<-ai,<-aA,<-hD];clear ai aA hD aa bv aY aZ aF ao au av aP ax l1 f1 d1 Q1 Q2 T an al aQ aV;go_loopw [42] (fun aM wr=>∃(k:Nat) (I:Tr) (u':List CW) (X:List (List Bq)) (v K:Vl) (bs:List Nat) (vs:List Vl) (G:Nat->Prop),k<=nl/\aM= .int .i64 k/\V9 w t y W u U D k I u' X v K bs vs G wr) (fun aM _=>nl-(intOf aM).toNat)
  case atStart=>exact⟨0,_,_,_,_,_,_,_,_,Zj,rfl,aR.o⟩
  case round=>
   obtain⟨k,I,u',X,v,K,V,vs,G,hk,rfl,a3⟩:=hrel;have l:=hZ a3;clear a3 aR;by_cases ap:k<nl
   .obtain⟨o,d⟩:∃o,y[k]? =some o:=⟨_,Q9 (by have:=am.o;omega)⟩
    obtain⟨b,ob,rfl,_⟩:=HR.o.base (by have:=am.o;omega) ZM;obtain⟨sv,ys,aq,aJ,ag⟩:=Cc.item HR.o (by have:=am.o;omega) HS.o d;obtain⟨aK,aL,rfl,_⟩:=aq.form;have M:∀j x,(BJ o (.slice aK o.steps.length aL))[j]? =some x->wr.cell? ⟨b,ob+k*4+j,none⟩=some x:=fun j x Q=>l.o.chg.keeps (ag j x Q)
    have c0:=M 0 _ rfl;have c1:=M 1 _ rfl;have c2:=M 2 _ rfl;have c3:=M 3 _ rfl;rw[Nat.add_zero]at c0;obtain⟨wy,P⟩:=Ue (wr.alloc (.cells #[.int .i64 o.kind,.string o.path,.string o.frm,.slice aK o.steps.length aL] 42))
    have N:Chg wr wy []:=by rw[P];exact(Chg.refl wr []).alloc _
    have aC:Ac wy wr.heap.size (BJ o (.slice aK o.steps.length aL)) 42:=by rw[P];exact BD _ _ _ _ _ rfl rfl
    have aG:wr.heap.size∉Dj W K V:=fun h=>Nat.lt_irrefl _ (l.o.st.ltAll _ h)
    have aI:vs.length<=65536:=by have Y:=l.o.st.grp.length;have h2:=l.o.len;omega
    have hc:=Xp 78 #[.pointer (some ⟨wr.heap.size,0,none⟩),.pointer (some ⟨u,0,none⟩),.pointer (some ⟨U,0,none⟩)] (Dj W K V) wy (fun A e w1=>CK w W I X K V G o A e w1)
     (fun b f=>Q6 (l.o.st.ltAll b f) N.size) (fun _=>Yb)
     (fun A Q=>by
      have aj:=N.trans Q;have ar:=l.o.chg.trans aj
      exact YH w W I X v K V vs G o _ ys _ u U D A (HL.o.kept ar) bk.o ar.size (l.o.st.kept aj) (HO.o o (Qi d)) (aq.kept ar) (Az.kept ar aJ) (aC.kept Q) (l.o.b2.kept aj) (l.o.b3.kept aj) (l.o.b4.kept aj) aG l.o.n2 l.o.n3 l.o.n4 aI)
     (fun A e w1 H=>by
      unfold CK at H
      cases r:Gz I o with
      |no m=>rw[r]at H;exact⟨H.2,.inr ⟨_,H.1⟩⟩
      |yes t2 un=>rw[r]at H;exact⟨H.2.1,.inl H.1⟩)
    cases r:Gz I o with
    |no m=>
     have C:=hZ (hc.mono fun e w' h=>UL r l.o N h);have af:BR t [] 0 y= .no m k:=by have:=Us l.o.run d r;rwa[Nat.zero_add]at this
     have ay:=hZ af;have bL:((m:Int) !=0)=true:=by have:=Zq r;rw[bne_iff_ne];omega
     rw[P]at C;clear r hc af P N aC aG aI M ag aq aJ d;obtain⟨sl,ah⟩:=Ue o.steps.length
     rw[<-ah]at C c3;clear ah;go_wp2_with((go_at_call 49;refine C.o.mono ?_;rintro e w3 ⟨rfl,h3⟩;have H3:=hZ h3;clear h3))
     go_ret2
     unfold Fb;rw[ay.o];exact⟨rfl,H3.o⟩
    |yes t2 un=>
     have C:=hZ (hc.mono fun e w' h=>SR r d l.o N h);rw[P]at C;clear r hc P N aC aG aI M ag aq aJ d;obtain⟨sl,ah⟩:=Ue o.steps.length
     rw[<-ah]at C c3;clear ah;go_wp2_with((go_at_call 49;refine C.o.mono ?_;rintro e w3 ⟨rfl,h3⟩;have H3:=hZ h3;clear h3))
     go_roundw
     case rel=>obtain⟨bn,v2,bw,bl,bx,G2,bp⟩:=H3.o;exact⟨k+1,t2,_,bn,v2,bw,bl,bx,G2,Zj,by go_num,bp⟩
     case measure=>simp[intOf];omega
   .obtain rfl:k=nl:=by omega
    have c0:wr.cell? ⟨u,0,none⟩=some (.pointer (some ⟨W,0,none⟩)):=l.o.b2.cell 0;have af:BR t [] 0 y= .yes I u':=by have:=l.o.run;rwa[am.o,Qn (Q8 _)]at this
    have ay:=hZ af;clear af;go_wp2_with fail
    go_ret2
    unfold Fb;rw[ay.o];exact⟨⟨W,X,v,K,V,vs,G,rfl,l.o.st,l.o.flat⟩,l.o.chg⟩
 .exact⟨Chg.refl _ _,aN.o,fun _ e=>by cases e⟩
def Hk(k i:Int):Vl:= .iface 52 (.agg #[.int .i64 k,.int .i64 i])
def V8(r:Zi)(w:Wl)(e:Ending)(w':Wl):Prop:=match r with
 | .no k i=>e= .returned (.tuple #[.pointer none,Hk k i])/\Chg w w' []
 | .yes a _=>F9 a w e w'
structure Yc(w:Wl)(F:Nat->Prop)(tb:Nat)(t:Tr)(ops:List Bq)(so:Vl)(xs:List Vl):Prop where
 laid:Br w
 big:10<=w.heap.size
 tree:CG w F tb t
 lt:∀b,F b->b<w.heap.size
 fine:Bt t
 row:As w so 4 ops.length xs
 at_:Cc w ops xs
 small:∀o∈ops,T7 o
 many:ops.length<=65536
theorem CG.kept{w w':Wl}{F:Nat->Prop}{c:Nat}{t:Tr}(h:CG w F c t)(a:Chg w w' [])(g:∀b,F b->b<w.heap.size):CG w' F c t:=by
 obtain⟨v,d,e,f⟩:=h;exact⟨v,a.keeps d,Af.kept (a.keepsF g) (fun _ h=>h) _ _ e,Q6 f a.size⟩
theorem Yc.kept{w w':Wl}{F:Nat->Prop}{e:Nat}{t:Tr}{c:List Bq}{d:Vl}{xs:List Vl}(h:Yc w F e t c d xs)(a:Chg w w' []):Yc w' F e t c d xs:=
 ⟨h.laid.kept a,Q7 h.big a.size,h.tree.kept a h.lt,fun b f=>Q6 (h.lt b f) a.size,h.fine,h.row.kept a,Cc.kept a h.at_,h.small,h.many⟩
theorem IB(F:Nat->Prop)(o:Nat)(t:Tr)(c:List Bq)(n:Vl)(xs:List Vl)(w:Wl)(h:Yc w F o t c n xs):
  Cl prog 15 #[.pointer (some ⟨o,0,none⟩),n] w (V8 (BR t [] 0 c) w):=by
 have a:=Xs t F o c n xs w h.laid h.big h.tree h.lt h.fine h.row h.at_ h.small h.many;have r:Fb t c w=fun e w'=>Fb t c w e w':=rfl
 unfold Fb at a;obtain⟨O,P,rfl,_⟩:=h.row.form;obtain⟨N,m⟩:=Ue c.length
 rw[<-m]at a|-
 cases j:BR t [] 0 c with
 |no k i=>
  rw[j]at a;have l:=hZ a;clear a j h m r;go_enter func15,ntmps15
  go_wp2_with((go_at_call 43;refine l.o.mono ?_;rintro e K ⟨rfl,f⟩;have d:=hZ f;clear f))
  go_ret2
  exact⟨rfl,d.o⟩
 |yes Q u=>
  rw[j]at a;have l:=hZ a;clear a j h m r;go_enter func15,ntmps15
  go_wp2_with(first
   |(go_at_call 43;refine l.o.mono ?_;rintro e K ⟨⟨W,L,v,S,bs,vs,G,rfl,g,I⟩,f⟩;have d:=hZ f;have p:=hZ g;obtain⟨R,T,rfl⟩:=g.wat.at_.iface;have E:=g.wat.blk.cell 0;simp only[Qa]at E;have M:=g.wat.blk.lt;clear f g I)
   |(go_at_call 44;refine(ZC p.o.wat.fine p.o.wat.at_).mono ?_;rintro e w2 ⟨A,J,rfl,s,x,y,z⟩;have B:=hZ s;have C:=hZ x;have D:=hZ y;have q:=hZ z;clear s x y z))
  go_ret2
  exact⟨A,J,rfl,B.o,C.o,d.o.trans D.o,fun b H=>Q7 d.o.size (q.o.1 b H),Q7 d.o.size q.o.2⟩
theorem cN(b:Nat)(a:Option Addr)(n c:Nat)(w:Wl)(d:65536<n)(f:n<=4294967296):
  Cl prog 43 #[.pointer (some ⟨b,0,none⟩),.slice a n c] w fun e w'=>e= .returned (.tuple #[.pointer none,.iface 50 (.int .i64 3)])/\Chg w w' []:=by
 have h:((65536:Int)<(n:Int)):=Zj
 go_enter func43,ntmps43
 go_wp2_with fail
 go_ret2
 exact⟨rfl,Chg.refl _ _⟩
theorem dq(d:Nat)(a:Option Addr)(n c:Nat)(w:Wl)(h:65536<n)(i:n<=4294967296):
  Cl prog 15 #[.pointer (some ⟨d,0,none⟩),.slice a n c] w fun e w'=>e= .returned (.tuple #[.pointer none,.iface 50 (.int .i64 3)])/\Chg w w' []:=by
 have g:=hZ (cN d a n c w h i);go_enter func15,ntmps15
 go_wp2_with((go_at_call 43;refine g.o.mono ?_;rintro e j ⟨rfl,b⟩;have f:=hZ b;clear b))
 go_ret2
 exact⟨rfl,f.o⟩
def cP(x:Tr)(w:Wl)(e:Ending)(w':Wl):Prop:=∃(F:Nat->Prop) (a:Nat),e= .returned (.tuple #[.pointer (some ⟨a,0,none⟩),.nilIface])/\CG w' F a x/\(∀b,F b->b<w'.heap.size)/\Chg w w' []
theorem cS{l:List Ap}{a:Vl}{xs:List Vl}{w:Wl}{x:Tr}(f:As w a 6 l.length xs)(g:Az w l xs)(i:∀s∈l,Di s)(m:l.length<=4294967296)(n:AS l=some x):
  Cl prog 28 #[a] w (cP x w):=by
 have h:=Fk l a xs w f g i m;have b:(if l.length<=65536 then CA l else none)=some x:=n;unfold BO at h;rw[b]at h;exact h.mono fun e w' ⟨⟨F,o,k,c,d,_⟩,j⟩=>⟨F,o,k,c,d,j⟩
structure ei(N B L9 lb:Nat)(sl:Vl)(l:List Tr)(vs:List Vl)(fs:List Nat)(w:Wl):Prop where
 cn:Ac w N [.int .i64 (Ag (.list l)).nodes] 3
 cb:Ac w B [.int .i64 (Ag (.list l)).bytes] 3
 cl:Ac w L9 [.pointer (some ⟨lb,0,none⟩)] 104
 bl:Ac w lb [sl] 107
 row:AK w sl 95 vs
 at_:PsAt w l vs fs
 nd:[N,B,L9,lb].Nodup
 own:∀g,sl.ownBlock=some g->g∉[N,B,L9,lb]
 sep:∀y,y∈fs->y<w.heap.size/\y∉[N,B,L9,lb]/\sl.ownBlock≠some y
def eb(o:Bq)(N B f b:Nat)(c:Vl)(l:List Tr)(h:List Nat)(w:Wl)(e:Ending)(w':Wl):Prop:=
 (if Bn o≠0 then e=By (Bn o)else if(Ag (.list (l++[OK o]))).within=true then
  e= .returned (.tuple #[])/\∃d i a,ei N B f b d (l++[OK o]) i a w'/\(∀g,d.ownBlock=some g->c.ownBlock=some g\/w.heap.size<=g)/\(∀y,y∈a->y∈h\/w.heap.size<=y)
 else e=By 3)/\Chg w w' (N::B::b::c.ownBlock.toList)
theorem ec(l:List Tr)(t:Tr):(Ag (.list (l++[t]))).nodes=(Ag (.list l)).nodes+(Ag t).nodes/\(Ag (.list (l++[t]))).bytes=(Ag (.list l)).bytes+(Ag t).bytes/\(Ag (.list (l++[t]))).depth=max (Ag (.list l)).depth ((Ag t).depth+1):=by
 simp only[Ag,G4,Bk,Sz.add,Sz.over];omega
theorem ed{l:List Tr}{t:Tr}(d:(Ag (.list l)).within=true):
  (Ag (.list (l++[t]))).within=(decide ((Ag (.list l)).nodes+(Ag t).nodes<=65536)&&decide ((Ag (.list l)).bytes+(Ag t).bytes<=2097152)&&decide ((Ag t).depth<512)):=by
 obtain⟨a,b,c⟩:=ec l t;have e:=(Ar d).2.2;unfold Sz.within;rw[a,b,c]
 congr 1
 rw[decide_eq_decide];omega
theorem ev(o:Bq)(sv:Vl)(ys:List Vl)(X N B b n:Nat)(p:Vl)(l:List Tr)(d:List Nat)(w:Wl)(f:Br w)(g:T7 o)(i:As w sv 6 o.steps.length ys)(j:Az w o.steps ys)(k:Ac w X (BJ o sv) 42)(c:Bn o≠0):
  Cl prog 50 #[.pointer (some ⟨X,0,none⟩),.pointer (some ⟨N,0,none⟩),.pointer (some ⟨B,0,none⟩),.pointer (some ⟨b,0,none⟩)] w (eb o N B b n p l d w):=by
 have a:=Xu o sv ys w f g i j;rw[Co.no rfl c]at a;have s:=hZ a;have t:=hZ k
 have r:=UD (∀w',Chg w w' []->eb o N B b n p l d w (By (Bn o)) w') fun w' u=>by
  unfold eb;rw[Qr c];exact⟨rfl,u.none _⟩
 clear a f g i j k c;go_enter func50,ntmps50
 go_wp2_with(first
  |(refine Bp rfl _ _ rfl X ZN 42 (BJ o sv) (by exact t.o) _ underlying42 rfl A0 ?_)
  |(go_at_call 52;refine s.o.mono ?_;rintro e w2 ⟨m,h⟩;have q:=hZ h;unfold By at m;subst m;clear h))
 exact⟨rfl,r.o _ q.o⟩
theorem ej{s:BY}{ts:List BY}(h:AD s=some ts):Utf.Al s=true:=by
 unfold AD at h;split at h
 .rename_i a;exact a.1
 .cases h
theorem ek{s:BY}(h:Utf.Al s=true)(a:s.size<=2097152):Av (.text s)/\(Ag (.text s)).within=true:=⟨⟨h,a⟩,by unfold Ag Sz.within;simp;omega⟩
theorem el{k:Nat}(h:1<=k/\k<=6):Av (.text (Ec k))/\(Ag (.text (Ec k))).within=true:=by
 have:k=1\/k=2\/k=3\/k=4\/k=5\/k=6:=Zj
 rcases this with rfl|rfl|rfl|rfl|rfl|rfl<;>exact ek Yb ZM
theorem eo{o:Bq}(f:Bn o=0)(n:o.path.size<=2097152)(m:o.frm.size<=2097152)(l:∀s∈o.steps,Di s):∀u∈Ab (OK o),Av u/\(Ag u).within=true:=by
 obtain⟨q,⟨ts,g⟩,h,i⟩:=EK f;have d:=el (k:=o.kind.toNat) Zj;have c:=ek (ej g) n;intro u a;unfold OK Ze at a;split at a
 .rename_i j
  obtain⟨p,b⟩:=h (by unfold AO;simp;omega);simp only[Ab,Qh,List.not_mem_nil,or_false]at a
  rcases a with rfl|rfl|rfl
  .exact ek (ej b) m
  .exact d
  .exact c
 .split at a
  .rename_i j
   obtain⟨x,b⟩:=i (by unfold AN;simp;omega);have e:=FD l b;rw[b,Option.getD_some]at a;simp only[Ab,Qh,List.not_mem_nil,or_false]at a
   rcases a with rfl|rfl|rfl
   .exact d
   .exact c
   .exact⟨e.good,e.fits⟩
  .simp only[Ab,Qh,List.not_mem_nil,or_false]at a
   rcases a with rfl|rfl
   .exact d
   .exact c
theorem eu{o:Bq}{x:Tr}(h:AN o.kind=true->AS o.steps=some x)(c:1<=o.kind):OK o=Ze o.kind.toNat o.path o.frm x:=by
 unfold OK;by_cases b:AN o.kind=true
 .rw[h b];rfl
 .have a:¬(o.kind.toNat=1\/o.kind.toNat=3\/o.kind.toNat=6):=fun e=>b (by unfold AN;simp;omega)
  unfold Ze;rw[Qs a,Qs a]
theorem en{o:Bq}(a:∀u∈Ab (OK o),Av u/\(Ag u).within=true):(Ag (OK o)).nodes<=200000/\(Ag (OK o)).bytes<=7000000/\(Ag (OK o)).depth<=513:=by
 obtain⟨ks,l,e,f,g,h⟩:=ea o.kind.toNat o.path o.frm ((AS o.steps).getD .null);have b:OK o= .obj ks l:=e;rw[b]at a|-;have c:=KW (l:=l) (fun u d=>(a u d).2) l.length;rw[List.take_length]at c;simp only[Ag,Sz.over];omega
end
section
open Go Go.RowKit Tree Ptr
theorem eH:Cy [Oa,SB,Fj]/\Cy [SB,Fj,SZ]/\Cy [SB,Fj]:=by
 have b:∀s:BY,s∈[Oa,SB,Fj,SZ]->Utf.Al s=true/\s.size<=2147483648:=by
  intro s a;simp only[Qh,List.not_mem_nil,or_false]at a
  rcases a with rfl|rfl|rfl|rfl<;>exact⟨Yb,ZM⟩
 have f:Utf.BK Oa SB<0:=by decide+kernel
 have g:Utf.BK Oa Fj<0:=by decide+kernel
 have i:Utf.BK SB Fj<0:=by decide+kernel
 have j:Utf.BK SB SZ<0:=by decide+kernel
 have k:Utf.BK Fj SZ<0:=by decide+kernel
 have d:∀s,s∈[Oa,SB,Fj]->s∈[Oa,SB,Fj,SZ]:=fun s h=>Qe [SZ] h
 have c:∀s,s∈[SB,Fj,SZ]->s∈[Oa,SB,Fj,SZ]:=fun s h=>Qg _ h
 have e:∀s,s∈[SB,Fj]->s∈[Oa,SB,Fj,SZ]:=fun s h=>c s (Qe [SZ] h)
 refine⟨⟨fun s a=>(b s (d s a)).1,fun s a=>(b s (d s a)).2, ?_, ?_⟩,⟨fun s a=>(b s (c s a)).1,fun s a=>(b s (c s a)).2, ?_, ?_⟩,⟨fun s a=>(b s (e s a)).1,fun s a=>(b s (e s a)).2, ?_, ?_⟩⟩
 all_goals first
  |(simp only[Qj,List.length_nil];omega)
  |(simp only[List.pairwise_cons,Qh,List.not_mem_nil,or_false,forall_eq_or_imp,forall_eq,List.Pairwise.nil,and_true,false_imp_iff,implies_true];simp only[f,g,i,j,k,and_self])
theorem eI{o:Bq}(a:∀u∈Ab (OK o),Av u/\(Ag u).within=true):Av (OK o):=by
 obtain⟨b,c,d⟩:=eH;unfold OK Ze at a|-;split at a
 .rw[Qr (by assumption)]
  simp only[Ab,Qh,List.not_mem_nil,or_false,forall_eq_or_imp,forall_eq]at a;exact⟨b,rfl,a.1.1,a.2.1.1,a.2.2.1,trivial⟩
 .rw[Qs (by assumption)]
  split at a
  .rw[Qr (by assumption)]
   simp only[Ab,Qh,List.not_mem_nil,or_false,forall_eq_or_imp,forall_eq]at a;exact⟨c,rfl,a.1.1,a.2.1.1,a.2.2.1,trivial⟩
  .rw[Qs (by assumption)]
   simp only[Ab,Qh,List.not_mem_nil,or_false,forall_eq_or_imp,forall_eq]at a;exact⟨d,rfl,a.1.1,a.2.1,trivial⟩
theorem eJ{l:List Bq}(b:∀o∈l,Bn o=0)(f:∀o∈l,T7 o/\o.path.size<=2097152/\o.frm.size<=2097152)(h:(Ag (.list (l.map OK))).within=true):Bt (.list (l.map OK)):=by
 refine⟨?_,h⟩;refine Cu.2 fun t g=> ?_
 obtain⟨o,a,rfl⟩:=List.mem_map.1 g;obtain⟨c,d,e⟩:=f o a;exact eI (eo (b o a) d e c.steps)
end
section
open _root_.Go.Proofs.Tryz
open Go Go.Shelf Go.RowKit Go.Lib Tree Ptr
theorem ew{w o u x z k:Wl}{N B m d g p:Nat}{j:Vl}{l:List Tr}{T:Tr}{v:Vl}{vs:List Vl}{C bs:List Nat}(h:ei N B m d j l vs C w)(q:Chg w o [])(n:Chg o u [])(D:Chg u x [N,B])(E:Chg x z j.ownBlock.toList)(s:Chg z k [d])(R:Ac k N [.int .i64 (Ag (.list (l++[T]))).nodes] 3)(O:Ac k B [.int .i64 (Ag (.list (l++[T]))).bytes] 3)(V:Ac k d [.slice (some ⟨g,0,none⟩) (vs.length+1) p] 107)(X:AK z (.slice (some ⟨g,0,none⟩) (vs.length+1) p) 95 (vs++[v]))(c:j.ownBlock=some g\/x.heap.size<=g)(K:AP o T v bs)(F:∀y,y∈bs->w.heap.size<=y):ei N B m d (.slice (some ⟨g,0,none⟩) (vs.length+1) p) (l++[T]) (vs++[v]) (C++bs) k:=by
 have lN:=h.cn.lt;have lB:=h.cb.lt;have lL:=h.cl.lt;have ll:=h.bl.lt;have z3:=q.size;have z4:=n.size;have z6:=D.size;have z7:=E.size;have z8:=s.size;have t:∀y,y∈[N,B,m,d]->y<w.heap.size:=fun y b=>by simp at b;omega
 have J:∀y,j.ownBlock=some y->y<w.heap.size:=fun y b=>h.row.lt b
 have G:∀y,y∈[N,B,m,d]->y≠g:=fun y b e=>by
  subst e
  rcases c with c|c
  .exact h.own _ c b
  .have:=t _ b;omega
 have W:=h.nd;have I:=h.nd;simp only[List.nodup_cons,Qh,List.not_mem_nil,or_false,not_or,not_false_eq_true,List.nodup_nil,and_true]at I;obtain⟨⟨Z,S,aa⟩,⟨P,Y⟩,Q⟩:=I;have U:∀y,y∈bs->y<o.heap.size:=AP.lt _ _ _ K
 have r:Chg u k (N::B::d::j.ownBlock.toList):=((D.mono (fun _ _ a=>by simp at a|-;omega)).trans (E.mono (fun _ _ a=>by simp at a|-;simp[a]))).trans (s.mono (fun _ _ a=>by simp at a|-;simp[a]))
 have H:∀y,y∈N::B::d::j.ownBlock.toList->y∈[N,B,m,d]\/j.ownBlock=some y:=fun y b=>by
  simp only[Qh,Option.mem_toList]at b
  rcases b with rfl|rfl|rfl|b
  .simp
  .simp
  .simp
  .exact .inr b
 refine⟨R,O,((h.cl.kept (q.trans n)).kept r (fun a=> ?_)),V,X.kept s (fun y b a=> ?_), ?_,W,fun y b a=> ?_,fun y b=> ?_⟩
 .simp only[Qh,Option.mem_toList]at a
  rcases a with a|a|a|a
  .exact S a.symm
  .exact P a.symm
  .exact Q a
  .exact h.own _ a Zh
 .simp at a;subst a
  have e:g=y:=by injection b
  exact G y Zh e.symm
 .refine PsAt.snoc ((h.at_.chg (q.trans n) Zh).chg r (fun y b a=> ?_)) ((K.chg n Zh).chg r (fun y b a=> ?_))
  .have f:=h.sep y a
   rcases H y b with i|i
   .exact f.2.1 i
   .exact f.2.2 i
  .have f:=F y a
   rcases H y b with i|i
   .have:=t y i;omega
   .have:=J y i;omega
 .have e:g=y:=by injection b
  exact G y a e.symm
 .rcases Qf.1 b with f|f
  .obtain⟨L,A,M⟩:=h.sep y f
   refine⟨Zj,A,fun e=> ?_⟩;have e:g=y:=by injection e
   subst e
   rcases c with c|c
   .exact M c
   .omega
  .have L:=F y f
   have A:=U y f;refine⟨Zj,fun a=>by have:=t y a;omega,fun e=> ?_⟩;have e:g=y:=by injection e
   subst e
   rcases c with c|c
   .have:=J _ c;omega
   .omega
theorem ey(o:Bq)(sv:Vl)(ys:List Vl)(X N B D d:Nat)(sl:Vl)(l:List Tr)(vs:List Vl)(fs:List Nat)(w:Wl)(hL:Br w)(aJ:dM w)(hO:T7 o)(hp:o.path.size<=2097152)(hf:o.frm.size<=2097152)(hR:As w sv 6 o.steps.length ys)(hS:Az w o.steps ys)(hX:Ac w X (BJ o sv) 42)(E:Bn o=0)(h:ei N B D d sl l vs fs w)(hw:(Ag (.list l)).within=true)(hl:l.length<=65536):
  Cl prog 50 #[.pointer (some ⟨X,0,none⟩),.pointer (some ⟨N,0,none⟩),.pointer (some ⟨B,0,none⟩),.pointer (some ⟨D,0,none⟩)] w (eb o N B D d sl l fs w):=by
 obtain⟨s,u,rfl,_⟩:=h.row.form;have a3:=hZ h.at_.length;have HR:=Xu o sv ys w hL hO hR hS;have hk:=(EK E).1;obtain⟨m,a⟩:∃m:Nat,o.kind=(m:Int)+1:=⟨o.kind.toNat-1,Zj⟩
 have a9:m<6:=Zj
 have ag:=eo E hp hf hO.steps;have Y:=en ag;have ai:=ed (t:=OK o) hw;have ah:=ec l (OK o);have aj:=Ar hw;have eR:Co o sv w=fun e w'=>∃aP aC x,I8 o aP aC x sv w e w'/\(AN o.kind=true->AS o.steps=some x):=by funext e w';unfold Co;rw[Qs (by simp[E])]
 rw[eR]at HR;have a2:=hZ HR;have HX:=hZ hX;have b:=hZ h;have a4:=hZ aJ;have aw:=UD (∀wx v bs,AP wx (OK o) v bs->JB v (Ag (OK o)) wx) fun wx v bs r=>eh ag r
 have A:=hZ a;have Q:=hZ E;obtain⟨T,G⟩:=Ue (OK o)
 have C:=hZ G;rw[<-G]at Y aw;obtain⟨O,J⟩:=Ue ((Ag T).nodes)
 obtain⟨M,I⟩:=Ue ((Ag T).bytes)
 obtain⟨td,Z⟩:=Ue ((Ag T).depth)
 obtain⟨L,H⟩:=Ue ((Ag (.list l)).nodes)
 obtain⟨K,j⟩:=Ue ((Ag (.list l)).bytes)
 have ae:=hZ (And.intro J (And.intro I Z));have au:=hZ (And.intro H j);rw[<-G,<-J,<-I,<-Z,<-H,<-j]at ai;rw[<-G,<-J,<-I,<-H,<-j]at ah;have V:=hZ ai;have ax:=hZ ah;rw[<-J,<-I,<-Z]at Y;rw[<-H,<-j]at aj;have bv:IntKind.i64.wrap ((L:Int)+(O:Int))=(L:Int)+(O:Int):=IntWalk.i64_in _ ⟨Zj,Zj⟩;have bw:IntKind.i64.wrap ((K:Int)+(M:Int))=(K:Int)+(M:Int):=IntWalk.i64_in _ ⟨Zj,Zj⟩;have bf:=hZ Y;have bg:=hZ aj;have aU:=hZ hl;clear HR eR hL hO hR hS hX E h hw hl ag Y ai ah aj aJ hp hf hk a G J I Z H j;go_enter func50,ntmps50
 go_upto_region 2 with(first
  |(refine Bp rfl _ _ rfl X ZN 42 (BJ o sv) (by exact HX.o) _ underlying42 rfl A0 ?_)
  |(go_at_call 52;refine a2.o.mono ?_;rintro e w2 ⟨aP,aC,x,⟨slp,be,vx,bx,F,F2,rfl,aO,j,_,_,_,aL,ba⟩,aK⟩;have av:=hZ aO;have ar:=hZ j;have R:=hZ aL;have aT:=hZ aK;rw[A.o];clear aO j aL aK ba)
  |(go_at_call 51;go_loud(refine(ee m o.path o.frm x sv slp be vx bx w2 a9 (a4.o.kept R.o) (fun hu=>⟨(av.o.val (by rw[A.o];exact hu)).1,AP.lt _ _ _ (av.o.val (by rw[A.o];exact hu)).1⟩)).mono ?_;rintro e w3 ⟨v,bs,rfl,q1,q2,h3⟩;have r:AP w3 T v bs:=(by rw[C.o,eu aT.o (by rw[A.o];omega),A.o];exact q1);obtain⟨ti,xi,rfl⟩:=r.iface;have Q1:=hZ r;have Q2:=hZ q2;have H3:=hZ (R.o.trans h3);obtain⟨sf,bd,bc,bb⟩:=aw.o w3 _ bs r;clear q1 q2 h3 r))
  |(refine Am rfl _ _ _ rfl _ rfl sf bd bc _ bb ?_;rintro e w4 ⟨rfl,h4⟩;refine⟨_,rfl, ?_⟩;have aQ:=hZ h4;have k:=hZ (H3.o.trans h4);unfold Jv;clear h4))
 rw[<-ae.o.1,<-ae.o.2.1,<-ae.o.2.2];have aN:=b.o.nd;simp only[List.nodup_cons,Qh,List.not_mem_nil,or_false,not_or,not_false_eq_true,List.nodup_nil,and_true]at aN;obtain⟨⟨aH,a7,aI⟩,⟨a6,aD⟩,bp⟩:=aN;have W:=b.o.cn.kept k.o;have af:=b.o.cb.kept k.o;rw[<-au.o.1]at W;rw[<-au.o.2]at af;have aR:=hZ af;have aY:=hZ W;obtain⟨lN,fN,cN⟩:=Ac.cells1 W;clear W af
 go_upto_region 3 with fail
 obtain⟨P,aa⟩:=Ue (w4.setCell ⟨N,0,none⟩ (.int .i64 ((L:Int)+(O:Int))))
 have ak:Hid (Chg w4 P [N]):=by rw[aa];exact hZ ((Chg.refl w4 [N]).setCell _ _ Zh)
 have aZ:Hid (Ac P N [.int .i64 ((L:Int)+(O:Int))] 3):=by rw[aa];exact hZ (aY.o.set 0 _)
 have am:=hZ (aR.o.kept ak.o (by simp;exact fun e=>aH e.symm));rw[<-aa];clear aa lN fN cN;obtain⟨lB,fB,cB⟩:=Ac.cells1 am.o
 go_upto_region 4 with fail
 obtain⟨n,ab⟩:=Ue (P.setCell ⟨B,0,none⟩ (.int .i64 ((K:Int)+(M:Int))))
 have al:Hid (Chg P n [B]):=by rw[ab];exact hZ ((Chg.refl P [B]).setCell _ _ Zh)
 have aS:Hid (Ac n B [.int .i64 ((K:Int)+(M:Int))] 3):=by rw[ab];exact hZ (am.o.set 0 _)
 have a0:=hZ (aZ.o.kept al.o (by simp;exact aH));have p:=UD (Chg w4 n [N,B]) ((ak.o.mono (fun _ _ h=>by simp at h;simp[h])).trans (al.o.mono (fun _ _ h=>by simp at h;simp[h])));have ap:=hZ ((b.o.cl.kept k.o).kept p.o (by simp;exact⟨fun e=>a7 e.symm,fun e=>a6 e.symm⟩));have az:=hZ ((b.o.bl.kept k.o).kept p.o (by simp;exact⟨fun e=>aI e.symm,fun e=>aD e.symm⟩));have a1:=hZ ((b.o.row.kept k.o).kept p.o (fun g hg a=>b.o.own g hg (by simp at a;simp;omega)));rw[<-ab];clear ab lB fB cB;obtain⟨lL,fL,cL⟩:=Ac.cells1 ap.o;obtain⟨ll,fl,cl⟩:=Ac.cells1 az.o;have aM:d∉(Vl.slice s vs.length u).ownBlock.toList:=fun a=>b.o.own d (by simpa using a) Zh
 have aW:=hZ aM;have aX:=UD (D∉(Vl.slice s vs.length u).ownBlock.toList) fun a=>b.o.own D (by simpa using a) Zh
 have ay:=UD (vs.length<=65536) (by have:=aU.o;have:=a3.o;omega);clear aM;go_region_law(go_loud(refine Df rfl _ _ _ rfl 95 .nilIface 16 underlying105 Jh rfl (.slice s vs.length u) vs ZN (by exact a1.o.kept (bs:=[]) (by exact cg cR) Zh) n.heap.size (.iface ti xi) ZN (by exact Bx rfl _ _) rfl (by have:=ay.o;omega) (by have:=ay.o;omega) ?_;intro g aB w7 aG aE aF;have aV:=hZ aG;have q:=UD (Chg n w7 (Vl.slice s vs.length u).ownBlock.toList) (ct ((Chg.refl n []).none _) aE);have ao:=UD ((Vl.slice s vs.length u).ownBlock=some g\/n.heap.size<=g) (aF.imp id (fun h=>by rw[h];simp));have aA:=hZ (az.o.kept q.o aW.o);obtain⟨bu,bo,bk⟩:=Ac.cells1 aA.o;obtain⟨br,bm,bi⟩:=Ac.cells1 (ap.o.kept q.o aX.o);clear aG aE aF))
 all_goals
  obtain⟨w8,ad⟩:=Ue (w7.setCell ⟨d,0,none⟩ (.slice (some ⟨g,0,none⟩) (vs.length+1) aB))
  have S:Hid (Chg w7 w8 [d]):=by rw[ad];exact hZ ((Chg.refl w7 [d]).setCell _ _ Zh)
  have a5:Hid (Ac w8 d [.slice (some ⟨g,0,none⟩) (vs.length+1) aB] 107):=by rw[ad];exact hZ (aA.o.set 0 _)
  have aq:=hZ ((a0.o.kept q.o (fun a=>b.o.own N (by simpa using a) Zh)).kept S.o (by simp;exact aI));have an:=hZ ((aS.o.kept q.o (fun a=>b.o.own B (by simpa using a) Zh)).kept S.o (by simp;exact aD));have U:=UD (Chg w w8 (N::B::d::(Vl.slice s vs.length u).ownBlock.toList)) ((((k.o.none _).trans (p.o.mono (fun _ _ a=>by simp at a|-;omega))).trans (q.o.mono (fun _ _ a=>by simp at a|-;simp[a]))).trans (S.o.mono (fun _ _ a=>by simp at a|-;simp[a])));rw[<-ad];clear ad;obtain⟨bt,bn,bj⟩:=Ac.cells1 aq.o;obtain⟨bq,bl,bh⟩:=Ac.cells1 an.o;by_cases q1:(L:Int)+(O:Int)<=65536
  .by_cases q2:(K:Int)+(M:Int)<=2097152
   .by_cases q3:(td:Int)<512
    .go_wp2_with(go_at_call 53;refine(Bv _ _).mono ?_;rintro e w9 ⟨rfl,rfl⟩)
     go_end0
     unfold eb;rw[Qs (by simp[Q.o]),<-C.o,V.o,Qr (by simp;omega)];refine⟨⟨rfl,_,vs++[.iface ti xi],fs++bs,ew b.o H3.o aQ.o p.o q.o S.o (by rw[ax.o.1,Int.natCast_add];exact aq.o) (by rw[ax.o.2.1,Int.natCast_add];exact an.o) a5.o aV.o ao.o Q1.o (fun y hy=> ?_),fun g2 a8=> ?_,fun y hy=> ?_⟩,U.o⟩
     .rcases Q2.o y hy with c|c
      .exact Q7 R.o.size c
      .exact ar.o.ge y c
     .have e:g=g2:=by injection a8
      subst e;exact ao.o.imp id (fun c=>Q7 (Q7 k.o.size p.o.size) c)
     .refine(Qf.1 hy).imp id fun c=> ?_
      rcases Q2.o y c with c|c
      .exact Q7 R.o.size c
      .exact ar.o.ge y c
    .skip
     go_wp2_with(go_at_call 53;refine(Bu _ _).mono ?_;rintro e w9 ⟨i,f⟩;unfold By at i;subst i;have z:=hZ f;clear f)
     refine⟨rfl, ?_⟩;unfold eb;rw[Qs (by simp[Q.o]),<-C.o,V.o,Qs (by simp;omega)];exact⟨rfl,U.o.trans (z.o.none _)⟩
   .skip
    go_wp2_with(go_at_call 53;refine(Bu _ _).mono ?_;rintro e w9 ⟨i,f⟩;unfold By at i;subst i;have z:=hZ f;clear f)
    refine⟨rfl, ?_⟩;unfold eb;rw[Qs (by simp[Q.o]),<-C.o,V.o,Qs (by simp;omega)];exact⟨rfl,U.o.trans (z.o.none _)⟩
  .skip
   go_wp2_with(go_at_call 53;refine(Bu _ _).mono ?_;rintro e w9 ⟨i,f⟩;unfold By at i;subst i;have z:=hZ f;clear f)
   refine⟨rfl, ?_⟩;unfold eb;rw[Qs (by simp[Q.o]),<-C.o,V.o,Qs (by simp;omega)];exact⟨rfl,U.o.trans (z.o.none _)⟩
end
end Go.Proofs.YtkfnkppdhcaeoaaGreatDoor

/- Part 17 of the proof of patchFresh_card. -/
import Derived.Test.YtamgbmcchhmojaaGreatDoorM16
set_option maxRecDepth 100000
set_option maxHeartbeats 32000000
set_option linter.all false
namespace Go.Proofs.YtamgbmcchhmojaaGreatDoor
open Go renaming Calls->Cl,TypeId->Ti,Value->Vl,World->Wl
open Go.Value renaming agg->nA,iface->nF,int->nI,pointer->nP,slice->nS,string->nG,tuple->nT
open Go.IntKind renaming i64->nX
open Go.Ending renaming returned->nR
open Go.Obj renaming cells->nC
open Option renaming none->nN,some->nM
section
open _root_.Go.Proofs.Tryz
open Go Go.Shelf Go.RowKit Go.Lib Tree Ptr
variable{s:BY}{o:Bq}{d ts:List BY}{a bs cs:List Nat}{W:Nat}{F:Nat->Prop}{p:Prop}{t x:Tr}{c v:Vl}{w w':Wl}
structure Dr(w0 w':Wl)(o:Bq)(sv:Vl)(ys:List Vl)(G:Nat->Prop):Prop where
 row:Ba w' sv 55 6 o.steps.length ys
 inn:SE G sv
 steps:Cr w' G o.steps ys
 new:∀b,G b->w0.heap.size<=b/\b<w'.heap.size
theorem Et.at{e:Ending}(h:Et o w e w'):∃sv ys G,e= nR (nA (BJ o sv).toArray)/\Dr w w' o sv ys G/\Chg w w' []:=by
 obtain⟨sv,ys,G,a,b,c,d,f,g⟩:=h;exact⟨sv,ys,G,a,⟨b,c,d,f⟩,g⟩
theorem Dr.kept{w0 c w2 d:Wl}{sv:Vl}{ys:List Vl}{G:Nat->Prop}(h:Dr c w2 o sv ys G)(e:Chg w2 d cs)(g:∀b,b∈cs->b<c.heap.size)(j:w0.heap.size<=c.heap.size):Dr w0 d o sv ys G:=by
 have f:i3 G w2 d:=e.keepsB (fun b a=>(h.new b a).2) (fun b i a=>by have:=g b i;have:=(h.new b a).1;omega);exact⟨h.row.keptF h.inn f,h.inn,h.steps.kept f (fun _ h=>h),fun b a=>by have:=h.new b a;have:=e.size;omega⟩
structure Hu(w:Wl)(W:Nat)(t:Tr)(v uv:Vl)(bs:List Nat):Prop where
 blk:Ac w W [v,nI nX (Ag t).nodes,nI nX (Ag t).bytes,uv] 69
 at_:AP w t v bs
 fine:Bt t
structure JC(w:Wl)(F:Nat->Prop)(sl:Vl)(ts:List BY):Prop where
 row:Ax w F sl (Ad ts)
 lt:∀b,F b->b<w.heap.size
 ok:DR ts
 small:∀s∈ts,s.size<=16777216
 cap:∀a n c,sl= nS a n c->n<=c
def ET(W:Nat)(f:Vl)(c:List Nat)(d:Tr)(o:Bq)(w:Wl)(e:Ending)(w':Wl):Prop:=
 ∃v' a sv ys G,e= nR (nA (BJ o sv).toArray)/\Dr w w' o sv ys G/\Hu w' W d v' f a/\DJ w c (W::a)/\Chg w w' c/\∀b,b∈W::a->¬G b
def AZ(n:Nat)(a:List Nat)(w:Wl)(e:Ending)(w':Wl):Prop:=e=By n/\Chg w w' a
def Cq(W:Nat)(b:Vl)(a:List Nat)(t x:Tr)(ts:List BY)(w:Wl)(e:Ending)(w':Wl):Prop:=
 if EN t ts≠0 then AZ (EN t ts) a w e w'
 else if(Ag (At t ts x)).within=true then ET W b a (At t ts x) (Dd t ts).toI w e w' else AZ 3 a w e w'
theorem LG{n:Nat}(h:EN t ts=n)(b:n≠0):Cq W c a t x ts w=AZ n a w:=by
 funext e w';unfold Cq;rw[h,Qr b]
theorem Hv(h:EN t ts=0)(b:(Ag (At t ts x)).within=false):Cq W c a t x ts w=AZ 3 a w:=by
 funext e w';unfold Cq;rw[h,Qs Zh,Qs (by simp[b])]
theorem LS{b:Vl}(h:EN t ts=0)(c:(Ag (At t ts x)).within=true):Cq W b a t x ts w=ET W b a (At t ts x) (Dd t ts).toI w:=by
 funext e w';unfold Cq;rw[h,Qs Zh,Qr c]
theorem JC.kept(h:JC w F c ts)(a:Chg w w' bs)(e:∀b,b∈bs->¬F b:=by simp):JC w' F c ts:=
 ⟨h.row.kept (a.keepsF h.lt e) (fun _ h=>h),fun b d=>Q6 (h.lt b d) a.size,h.ok,h.small,h.cap⟩
theorem Hu.kept{e:Vl}(h:Hu w W t v e bs)(c:Chg w w' cs)(d:∀b,b∈cs->b∉W::bs:=by simp):Hu w' W t v e bs:=
 ⟨h.blk.kept c (fun a=>d W a Zh),h.at_.chg c (fun b f a=>d b f (by simp[a])),h.fine⟩
theorem JC.init{a:Option Addr}{c:Nat}(h:JC w F (nS a (d.length+1) c) (d++[s])):JC w F (nS a d.length c) d:=by
 refine⟨?_,h.lt,⟨fun x f=>h.ok.right x (by simp[f]),fun x f=>h.ok.small x (by simp[f]), ?_⟩,fun x f=>h.small x (by simp[f]),fun q A r e=>by
  have:=h.cap _ _ _ rfl;injection e with _ k l;omega⟩
 .obtain⟨q,r,e,n⟩:=h.row.cell;injection e with j k l
  subst j;subst l;by_cases m:d=[]
  .subst m;exact .inl ⟨rfl,a,c,rfl⟩
  .have z:0<d.length:=List.length_pos_iff.2 m;obtain⟨b,o,rfl,t,_⟩:=n 0 _ (Q9 (by simp[Ad]));refine .inr ⟨b,o,c,by rw[Ao],t,fun i v p=> ?_⟩
   obtain⟨y,B,g,_,u⟩:=n i v (by
    have hi:=(Qc.1 p).1
    rw[show Ad (d++[s])=Ad d++[nG s]from by simp[Ad],List.getElem?_append_left hi];exact p)
   injection g with g
   injection g with j k
   subst j;subst k;exact u
 .have:=h.ok.many;rw[Qk]at this;omega
theorem JC.last{a:Option Addr}{c:Nat}(h:JC w F (nS a (d.length+1) c) (d++[s])):∃b o,a=nM ⟨b,o,nN⟩/\F b/\w.cell? ⟨b,o+d.length,nN⟩=nM (nG s)/\d.length+1<=65536/\Utf.Al s=true/\s.size<=16777216/\d.length+1<=c:=by
 obtain⟨l,m,e,j⟩:=h.row.cell;injection e with f n g
 subst f;subst g;obtain⟨b,o,rfl,i,k⟩:=j d.length (nG s) (by simp[Ad]);exact⟨b,o,rfl,i,k,by have:=h.ok.many;simpa using this,h.ok.right s Zh,h.small s Zh,h.cap _ _ _ rfl⟩
theorem Iz(t:Tr)(a:List BY)(s:BY):EN t (a++[s])=match Ah t a with
  |none=>4
  |some p=>Gg s p:=by
 unfold EN;rw[Qs Zh,List.dropLast_concat,BE];cases Ah t a<;>rfl
theorem wM(h:p:=by exact cg cR):p:=h
theorem Tu(W:Nat)(t:Tr)(v y z:Vl)(bs:List Nat)(F:Nat->Prop)(a:Option Addr)(c:Nat)(d:List BY)(s:BY)(w:Wl)(G:List Nat)(n:Br w)(p:Hu w W t v y bs)(g:JC w F (nS a (d.length+1) c) (d++[s]))(r:Ah t d=nN)(E:∃H x,z= nF H x):
  Cl prog 101 #[nP (nM ⟨W,0,nN⟩),nS a (d.length+1) c,z] w (AZ 4 G w):=by
 obtain⟨b,o,rfl,l,C,D,J,K,B⟩:=g.last;obtain⟨M,N,rfl⟩:=E;have L:=g.lt b l
 have j:=UD (∀f,Chg w f []->Cl prog 105 #[nP (nM ⟨W,0,nN⟩),nS (nM ⟨b,o,nN⟩) d.length c] f (fun e w'=>Chg f w' []/\e=By 4)) fun f h=>by
  have hi:=g.init.kept h;have i:=p.kept h;have:=LI W t v _ _ y bs F _ d f (n.kept h) i.blk i.at_ i.fine hi.row hi.ok hi.small;rwa[Jw r]at this
 obtain⟨m,u⟩:=Ue d.length;rw[<-u]at j C D B|-;clear n p g r u l;go_enter func101,ntmps101
 go_wp2_with(first
  |(go_at_call 105;refine(j.o _ wM).mono ?_;rintro e I ⟨k,q⟩;unfold By at q;subst q;have A:=UD (Chg w I []) (ct cR k);clear k))
 exact⟨rfl,rfl,A.o.none _⟩
theorem Ts(W:Nat)(t p:Tr)(v C D:Vl)(bs:List Nat)(F:Nat->Prop)(a:Option Addr)(c:Nat)(d:List BY)(s:BY)(w:Wl)(N:List Nat)(u:Br w)(y:Hu w W t v C bs)(i:JC w F (nS a (d.length+1) c) (d++[s]))(A:Ah t d=nM p)(j:AX p=true)(M:∃O x,D= nF O x):
  Cl prog 101 #[nP (nM ⟨W,0,nN⟩),nS a (d.length+1) c,D] w (AZ 5 N w):=by
 obtain⟨b,o,rfl,r,K,L,U,V,J⟩:=i.last;obtain⟨Y,xx,rfl⟩:=M;have X:=i.lt b r
 have n:=UD (∀f,Chg w f []->Cl prog 105 #[nP (nM ⟨W,0,nN⟩),nS (nM ⟨b,o,nN⟩) d.length c] f (fun e w'=>Chg f w' []/\e= nR (nF 131 (nA #[AG p])))) fun f h=>by
  have hi:=i.init.kept h;have k:=y.kept h;have:=LI W t v _ _ C bs F _ d f (u.kept h) k.blk k.at_ k.fine hi.row hi.ok hi.small;rw[Jx A]at this;refine this.mono fun e w' ⟨g,Z,T,rest,H,I⟩=>⟨g, ?_⟩;rw[H,(I.at_.leaf (fun l e=>by subst e;simp[AX]at j) (fun ks l e=>by subst e;simp[AX]at j)).1]
 have R:∀(w:Wl),(Instr.typeAssert (nF 131 (nA #[AG p])) 66 123 true).run prog w= .ok (nT #[nP nN,.bool false]) w:=fun _=>Yb;have S:∀(w:Wl),(Instr.typeAssert (nF 131 (nA #[AG p])) 66 71 true).run prog w= .ok (nT #[nP nN,.bool false]) w:=fun _=>Yb;obtain⟨m,B⟩:=Ue d.length;rw[<-B]at n K L J|-;clear u y i A B r j;go_enter func101,ntmps101
 go_wp2_with(first
  |(go_at_call 105;refine(n.o _ (by exact ot)).mono ?_;rintro e P ⟨g,rfl⟩;have E:=UD (Chg w P []) (Chg.trans (b:=_) (by exact ot) g);clear g)
  |(go_at_call 30;refine(Bu _ _).mono ?_;rintro e Q ⟨z,q⟩;unfold By at z;subst z;have G:=UD (Chg w Q []) (Chg.trans (b:=_) (by(have:=E.o;exact oq)) q);clear q))
 exact⟨rfl,rfl,G.o.none _⟩
theorem Hu.was{a:Vl}(h:Hu w W t v a bs):KT w v (Ag t).nodes (Ag t).bytes:= .inr ⟨t,bs,h.at_,h.fine.good,h.fine.fits,rfl,rfl⟩
theorem KT.kept{m c:Nat}(h:KT w v m c)(e:Chg w w' []):KT w' v m c:=by
 rcases h with h|⟨u,a,b,d⟩
 .exact .inl h
 .exact .inr ⟨u,a,b.chg e Zh,d⟩
structure Sx(W:Nat)(t x:Tr)(v uv vx:Vl)(bs bx:List Nat)(F:Nat->Prop)(sl:Vl)(ts:List BY)(w:Wl):Prop where
 laid:Br w
 wat:Hu w W t v uv bs
 xat:AP w x vx bx
 xfine:Bt x
 tat:JC w F sl ts
 nodup:(W::(bx++bs)).Nodup
 big:∀b,b∈W::(bx++bs)->10<=b
 apart:∀b,b∈W::(bx++bs)->¬F b
theorem E6(s:Sz):Hi s.nodes s.bytes s.depth=s.within:=rfl
theorem wN(h:p:=by simp;omega):p:=h
theorem wQ(h:p:=by simp only;omega):p:=h
theorem wU(h:p:=by exact(DJ.refl m.o.nodup).sub (List.Sublist.cons_cons _ (List.sublist_append_left _ _))):p:=h
theorem Tv(W:Nat)(t x:Tr)(v C V:Vl)(bs s:List Nat)(F:Nat->Prop)(a:Option Addr)(c:Nat)(w:Wl)(h:Sx W t x v C V bs s F (nS a 0 c) [] w):
  Cl prog 101 #[nP (nM ⟨W,0,nN⟩),nS a 0 c,V] w (Cq W C (W::(s++bs)) t x [] w):=by
 have y:EN t []=0:=by unfold EN;rw[Qr rfl]
 have u:At t [] x=x:=by unfold At;rw[Qr rfl]
 have ah:=h.wat.blk.lt;obtain⟨K,L,rfl⟩:=h.xat.iface;obtain⟨B,D,rfl⟩:=h.wat.at_.iface;have S:=Ar h.xfine.fits;have z:=Ar h.wat.fine.fits
 have r:=UD (∀f,Chg w f []->Cl prog 129 #[nP (nM ⟨W,0,nN⟩),nS a 0 c,nF K L,nF B D,nI nX 0] f (Dh W (nF B D) C (Ag x).nodes (Ag x).bytes (0+(Ag x).depth) f)) fun f l=>
  Jl W _ C _ _ x _ _ s _ _ (Ag x).nodes (Ag x).bytes 0 a 0 c f (h.wat.blk.kept l) (h.xat.chg l Zh) h.xfine.good h.xfine.fits (h.wat.was.kept l) z.1 z.2.1 Zj Zj Zj Zj
 have I:W∉bs:=fun n=>by have:=h.nodup;simp[n]at this
 have Z:=UD (∀f,Chg w f [W]->Cl prog 130 #[nI nX 3,nS a 0 c,nF B D] f (Et (AC 3 [] (Ai t)) f)) fun f l=>by
  have A:=h.tat.kept l (fun b d=>by simp at d;subst d;exact h.apart b Zh);exact DE 3 F _ [] t _ bs f (h.laid.kept l (fun b d=>by simp at d;subst d;exact h.big b Zh)) A.row A.lt A.ok A.small h.wat.fine (h.wat.at_.chg l (fun b d=>by simp at d;subst d;exact I))
 have c0:w.cell? ⟨W,0,nN⟩=nM (nF B D):=h.wat.blk.cell 0;have m:=hZ h;have af:=hZ h.wat.blk;rw[Nat.zero_add]at r;by_cases o:(Ag x).within=true
 .rw[LS y (by rw[u];exact o)];rw[En (by rw[E6];exact o)]at r;have aj:W≠w.heap.size:=Zj;clear h y u S z o I;go_enter func101,ntmps101
  go_wp2_with(first
   |(go_at_call 129;refine(r.o _ (by exact ot)).mono ?_;rintro e p ⟨rfl,k,g⟩;have X:=hZ k;have q:=UD (Chg w p [W]) (Chg.trans (b:=_) (by exact ot) g);have M:=UD (Ac p w.heap.size [nI nX 0,nG ⟨#[]⟩,nG ⟨#[]⟩,nS nN 0 0] 44) ((Ac.new w _ _).kept g wN);have d0:=k.cell 0;have f0:∀j,p.frozen? ⟨W,j,nN⟩=false:=fun j=>k.frozen j;have ak:=k.lt;simp only[Qa]at d0;clear k g)
   |(go_at_call 130;refine(Z.o _ (by(have:=q.o;exact oq))).mono ?_;rintro e w2 g;obtain⟨sv,ys,G,rfl,J,U⟩:=g.at;have N:=hZ J;have H:=hZ U;obtain⟨sa,sc,rfl,_⟩:=J.row.form;clear g J U)
   |(refine Ae rfl _ _ _ rfl w.heap.size (BJ (AC 3 [] (Ai t)) (nS sa (AC 3 [] (Ai t)).steps.length sc)) ZN ZN 44 [nI nX 0,nG ⟨#[]⟩,nG ⟨#[]⟩,nS nN 0 0] (by exact(M.o.set_other _ _ wQ).kept H.o) A0 rfl (Dx _ _ _ _) ?_;intro w6 T P R;have ag:=hZ T;have Y:=hZ P;have E:=hZ R;clear T P R))
  have ae:=q.o.size;have ab:Chg w w2 [W]:=Chg.trans (b:=_) (q.o.setCell _ _ Zh) (H.o.none _);have O:Chg w w6 [W]:=ab.step E.o (fun i hi hl=>by simp at hi;omega);have aa:W∉s:=fun n=>by have:=m.o.nodup;simp[n]at this
  have ad:=AP.lt _ _ _ m.o.xat;have ai:=m.o.wat.blk.lt;have hk:=N.o.kept (w0:=w) E.o (fun b d=>by simp at d;subst d;simpa using M.o.lt) (by simpa using ae)
  refine bodyPost_ret (uP Y.o) rfl
   ⟨nF K L,s,_,ys,G,rfl,hk,⟨?_,m.o.xat.chg O (fun b d=>by simp at d;subst d;exact aa),m.o.xfine⟩, ?_,O.mono (fun _ _ n=>by simp at n;simp[n]),fun b d hG=> ?_⟩
  .exact(((X.o.set 0 (nF K L)).kept H.o).kept E.o wN)
  .exact wU
  .have k:=(N.o.new b hG).1;have g:p.heap.size<=b:=by simpa using k
   rcases Qh.1 d with rfl|d
   .omega
   .have:=ad b d;omega
 .rw[Hv y (by rw[u];simpa using o)];rw[DO (by rw[E6];simpa using o)]at r;clear h y u S z o I;go_enter func101,ntmps101
  go_wp2_with(first
   |(go_at_call 129;refine(r.o _ (by exact ot)).mono ?_;rintro e p ⟨Q,g⟩;unfold By at Q;subst Q;have q:=UD (Chg w p []) (Chg.trans (b:=_) (by exact ot) g);clear g))
  exact⟨rfl,rfl,q.o.none _⟩
end
section
open Go Go.Shelf Go.RowKit Go.Lib Tree Ptr
variable{ts:List BY}{bs cs m:List Nat}{p:Prop}{t u x:Tr}{w:Wl}
theorem KC(h:Bt t)(b:Ah t ts=nM u):Hi (Ag (AE t ts x)).nodes (Ag (AE t ts x)).bytes (ts.length+(Ag x).depth)=(Ag (AE t ts x)).within:=by
 obtain⟨c,d,a⟩:=J4 (x:=x) h b;rw[a];unfold Hi
 congr 1
 congr 1
 .rw[decide_eq_decide];omega
 .rw[decide_eq_decide];omega
theorem Oy{p:Tr}(h:Bt t)(g:ts≠[])(d:Ah t ts.dropLast=nM p)(e:Gg (AH ts) p=0)(f:∀ks l,p= .obj ks l->C4 ks (AH ts)=false):
  Hi (Ag (At t ts x)).nodes (Ag (At t ts x)).bytes (ts.length+(Ag x).depth)=(Ag (At t ts x)).within:=by
 obtain⟨a,b,c⟩:=MR (x:=x) h g d e f;rw[c];unfold Hi;rw[a,b]
theorem DJ.count{d:List Nat}(h:DJ w d bs)(c:∀a,cs.count a<=bs.count a):DJ w d cs:=
 ⟨List.nodup_iff_count.2 fun a=>Q7 (c a) (List.nodup_iff_count.1 h.nodup a),fun b e=>h.come b (List.count_pos_iff.1 (Q6 (List.count_pos_iff.2 e) (c b)))⟩
theorem Cd{l:List Nat}(h:(l++m).Nodup){b:Nat}(a:b∈l):b∉m:=fun c=>by
 have:=List.nodup_iff_count.1 h b;rw[List.count_append]at this;have d:=List.count_pos_iff.2 a;have e:=List.count_pos_iff.2 c;omega
theorem Chg.sameB{w':Wl}(h:Chg w w' cs)(d:∀b,b∈bs->b<w.heap.size)(c:∀b,b∈bs->b∉cs):Ca bs w w':=fun b a=>h.block b (d b a) (c b a)
theorem wP(h:p:=by rw[List.nodup_iff_count];intro a;have o:=J a;have p:=H a;simp only[List.count_cons,List.count_append]at o p|-;omega):p:=h
theorem wX(h:p:=by simp[Vl.ownBlock]):p:=h
theorem tl(h:p:=by simp only[List.count_cons,List.count_append]at o p N O|-;omega):p:=h
theorem Uv{h:Wl}{W g c pi:Nat}{v z uv:Vl}{E rest:List Nat}{M:List BY}{s:BY}{ks:List BY}{l:List Tr}{i:Nat}{sk:Vl}{vs:List Vl}{k:List Nat}(S:Hu w W t v uv bs)(K:Ir w t v bs M (.obj ks l) (IR i) E rest)(q:PS w ks l i (nS (nM ⟨g,0,nN⟩) vs.length c) sk vs k)(U:E=i::((Vl.slice (nM ⟨g,0,nN⟩) vs.length c).ownBlock.toList++(sk.ownBlock.toList++k)))(G:(W::(m++bs)).Nodup)(hx:AP w x z m)(hu:l[pi]? =nM u)(Z:C4 ks s=true)(ae:pi=A5 ks s)(n:Chg w h [W]):
  ∃A,AP (h.setCell ⟨g,pi,nN⟩ z) (Bz (Cj s x) t M) v A/\DJ h (W::(m++bs)) (W::A)/\(∃v0,h.cell? ⟨g,pi,nN⟩=nM v0)/\(∀j,h.frozen? ⟨g,j,nN⟩=false)/\g∈bs/\g∉rest:=by
 have J:=List.nodup_iff_count.1 G;have I:=K.perm;have H:=fun a=>I.count_eq a;have aj:bs.Perm (E++rest):=I;subst U;have F:∀y,y∈m++bs->y≠W:=fun y d e=>by subst e;exact(List.nodup_cons.1 G).1 d
 have C:∀y,y∈(i::((Vl.slice (nM ⟨g,0,nN⟩) vs.length c).ownBlock.toList++(sk.ownBlock.toList++k)))++rest->y∈bs:=fun y d=>I.mem_iff.2 d
 have P:PS h ks l i (nS (nM ⟨g,0,nN⟩) vs.length c) sk vs k:=by
  have D:∀y,y∈i::((Vl.slice (nM ⟨g,0,nN⟩) vs.length c).ownBlock.toList++(sk.ownBlock.toList++k))->y∉[W]:=fun y d f=>by
   simp at f;exact F y (Qd _ (C y (Qe _ d))) f
  exact⟨q.blk.kept n (D _ Zh),q.lst.kept n (fun y d=>D y (by simp only[Qh,Qf];exact .inr (.inl (by rw[d];simp)))),q.keys.kept n (fun y d=>D y (by simp only[Qh,Qf];exact .inr (.inr (.inl (by rw[d];simp))))),q.len,
   q.at_.chg n (fun y d f=>D y (by simp only[Qh,Qf];exact .inr (.inr (.inr f))) d)⟩
 have ah:AP h x z m:=hx.chg n (fun y d f=>by simp at d;exact F y (Qe _ f) d)
 have aa:(m++(i::((Vl.slice (nM ⟨g,0,nN⟩) vs.length c).ownBlock.toList++(sk.ownBlock.toList++k)))).Nodup:=by
  exact wP
 obtain⟨g',c',e,ag,X,bu,r,ai,ab,ad,Q⟩:=P.set hu aa ah;injection e with e _ _
 injection e with e
 injection e with e _ _
 subst e;have Y:g∈bs:=C g wX
 have L:g∉rest:=Cd (l:=i::((Vl.slice (nM ⟨g,0,nN⟩) vs.length c).ownBlock.toList++(sk.ownBlock.toList++k))) (by
  rw[List.nodup_iff_count];intro a;have o:=J a;have p:=H a;simp only[List.count_cons,List.count_append]at o p|-
  omega) wX
 have R:=AP.lt _ _ _ S.at_;have V:Chg w (h.setCell ⟨g,pi,nN⟩ z) [W,g]:=(n.mono (fun _ _ f=>by simp at f;simp[f])).setCell _ _ Zh
 have af:Ca rest w (h.setCell ⟨g,pi,nN⟩ z):=V.sameB (fun b B=>R b (C b (Qd _ B))) (fun b B f=>by
  simp at f;rcases f with rfl|rfl
  .exact F b (Qd _ (C b (Qd _ B))) rfl
  .exact L B)
 have T:Cj s x (.obj ks l)= .obj ks (l.set pi x):=by simp only[Cj];rw[Qr Z,ae]
 obtain⟨A,k1,k2⟩:=K.back (Cj s x) _ _ (by rw[T];exact Q.pat) af;refine⟨A,k1,(DJ.refl G).count (fun a=> ?_),ag,X,Y,L⟩;have o:=k2.count_eq a;have p:=H a;have N:=ab.count_eq a;have O:=ad.count_eq a;exact tl
end
section
open _root_.Go.Proofs.Tryz
open Go Go.Shelf Go.RowKit Go.Lib Tree Ptr
variable{s:BY}{ks ts:List BY}{bs i rest:List Nat}{l:List Tr}{W:Nat}{F:Nat->Prop}{p:Prop}{t u:Tr}{d f g v:Vl}{w w':Wl}
theorem Dv.kept(a:Chg w w' []):∀{ts:List BY} {t:Tr} {v d:Vl},Dv w t v ts d->Dv w' t v ts d
 |[],_,_,_,h=>h
 |s::r,_,_,_,h=>by
  simp only[Dv]at h|-;obtain⟨i,u,b,g,n,c,p,o,e,f,j,k,l,m⟩:=h;exact⟨i,u,b,g,n,c,p,o,e,f,j,a.keeps k,a.keeps l,m.kept a⟩
theorem EU(h:AP w t v bs):∀(n:Nat) (ts:List BY) (u:Tr),ts.length=n->Ah t ts=nM u->∃j d rest,Ir w t v bs ts u j d rest
 |0,ts,u,b,a=>by
  have:ts=[]:=List.eq_nil_of_length_eq_zero b;subst this;simp only[Ah]at a;injection a with a
  subst a;exact⟨v,bs,[],Ir.here h⟩
 |n+1,ts,u,b,a=>by
  have l:ts≠[]:=by intro e;subst e;simp at b
  obtain⟨c,s,rfl⟩:∃c s,ts=c++[s]:=⟨ts.dropLast,ts.getLast l,(List.dropLast_concat_getLast l).symm⟩;rw[BW]at a;cases g:Ah t c with
  |none=>rw[g]at a;simp at a
  |some p=>
   rw[g]at a;simp only[Option.bind_some]at a;obtain⟨r,o,rest,k⟩:=EU h n c p (by simpa using b) g;unfold Dy at a;cases f:D6 p s with
   |none=>rw[f]at a;simp at a
   |some i=>
    rw[f]at a;simp only[Option.bind_some]at a;obtain⟨_,_,_,_,j,d,q,_,_,_,_,m⟩:=Fx k.at_ f a;exact⟨j,d,_,k.snoc m⟩
theorem wT(h:p:=by refine this.mono fun e w' ⟨j,r,p,q,k,l⟩=>⟨?_,j⟩;rw[k,(c.reach.kept h).inj l.reach]):p:=h
theorem Dl(m:Br w)(o:Hu w W t v f bs)(n:JC w F d ts)(c:Ir w t v bs ts u g i rest):
  ∀a,Chg w a []->Cl prog 105 #[nP (nM ⟨W,0,nN⟩),d] a (fun e w'=>e= nR g/\Chg a w' []):=fun a h=>by
 have hi:=n.kept h;have b:=o.kept h;have:=LI W t v _ _ f bs F _ ts a (m.kept h) b.blk b.at_ b.fine hi.row hi.ok hi.small;rw[Jx c.lead]at this;exact wT
theorem Ud(m:Br w)(o:Hu w W t v f bs)(n:JC w F d ts)(c:Ir w t v bs ts u g i rest):
  ∀a,Chg w a []->Cl prog 135 #[nP (nM ⟨W,0,nN⟩),d] a (fun e w'=>e= nR (nT #[g,.bool true])/\Chg a w' []):=fun a h=>by
 have hi:=n.kept h;have b:=o.kept h;have:=LJ W t v _ _ f bs F _ ts a (m.kept h) b.blk b.at_ b.fine hi.row hi.ok hi.small (Q7 hi.ok.many Zj);rw[Iv c.lead]at this;exact wT
theorem S0{b:Nat}{sv sk:Vl}{vs:List Vl}{g:List Nat}(c:PS w ks l b sv sk vs g)(m:Cy ks)(n:Utf.Al s=true)(o:s.size<=16777216)(d:C4 ks s=true):
  ∀a,Chg w a []->Cl prog 131 #[nP (nM ⟨b,0,nN⟩),nG s] a (fun e w'=>e= nR (nT #[nI nX (A5 ks s),.bool true])/\Chg a w' []):=fun a f=>
 (Pl ks s b sv sk a (c.blk.kept f) (c.keys.kept f) m n Zj).mono fun e w' ⟨i,h,j,k,_⟩=>⟨by rw[h,d,(k.yes d).1],j⟩
theorem Rk{a:List BY}(b:Ah t a=nM (.obj ks l)):EN t (a++[s])=0:=by rw[Iz,b];rfl
theorem AZ.of{n:Nat}{c:List Nat}{e:Ending}(b:e=By n)(a:Chg w w' []):AZ n c w e w':=⟨b,a.none _⟩
def Ef:List Vl:=[nI nX 0,nG ⟨#[]⟩,nG ⟨#[]⟩,nS nN 0 0]
theorem E3(t x:Tr)(a:List BY)(s:BY):At t (a++[s]) x=Bz (Cj s x) t a:=by
 unfold At;rw[Qs Zh,List.dropLast_concat,BE]
theorem wK(h:p:=by
 rcases Qh.1 h with h|h
 .omega
 .rcases Qf.1 h with h|h
  .have:=AP.lt _ _ _ HH.o.xat _ h;omega
  .have:=AP.lt _ _ _ HH.o.wat.at_ _ h;omega):p:=h
theorem vi(h:p:=by rw[I];simp[Vl.ownBlock]):p:=h
theorem Vk(W:Nat)(t x:Tr)(v uv vx:Vl)(bs U:List Nat)(F:Nat->Prop)(a:Option Addr)(c:Nat)(d:List BY)(s:BY)(w:Wl)(ks:List BY)(l:List Tr)(h:Sx W t x v uv vx bs U F (nS a (d.length+1) c) (d++[s]) w)(K:Ah t d=nM (.obj ks l))(Q:C4 ks s=true):
  Cl prog 101 #[nP (nM ⟨W,0,nN⟩),nS a (d.length+1) c,vx] w (Cq W uv (W::(U++bs)) t x (d++[s]) w):=by
 have X:=Rk (s:=s) K;have av:d++[s]≠[]:=Zh;obtain⟨ao,J,P⟩:=T9 (x:=x) (ts:=d++[s]) h.wat.fine av (by rw[List.dropLast_concat];exact K) (by rw[BE];exact Q);rw[BE]at J P;obtain⟨b,o,rfl,ak,aE,ar,aX,aY,aD⟩:=h.tat.last;have lb:=h.tat.lt b ak;obtain⟨tx,xx,rfl⟩:=h.xat.iface;obtain⟨tv,xv,rfl⟩:=h.wat.at_.iface;obtain⟨vp,bp,rest,z⟩:=EU h.wat.at_ _ d _ rfl K;obtain⟨N,sv,sk,vs,fs,rfl,n,I⟩:=z.at_.obj;have ag:=(h.wat.fine.lead K).good;have ay:=Dk (Cp.1 Q);have ae:=S0 (s:=s) n ag.1 aX aY Q;obtain⟨pi,ah⟩:=Ue (A5 ks s);rw[<-ah]at ae ay J P;have ax:pi<l.length:=by have:=ag.2.1;omega
 obtain⟨u,Z⟩:∃u,l[pi]? =nM u:=⟨_,Q9 ax⟩;have ap:l.getD pi .null=u:=by rw[List.getD_eq_getElem?_getD,Z];rfl
 rw[ap]at J P;obtain⟨vu,bu,aa,Y,al⟩:=n.at_.get Z;obtain⟨tu,xu,rfl⟩:=Y.iface;have aI:=n.at_.length
 obtain⟨g,c',rfl,a4⟩:∃g c',sv= nS (nM ⟨g,0,nN⟩) vs.length c'/\vs.length<=c':=by
  rcases n.lst.one with⟨_,e⟩|h
  .rw[e]at aa;simp at aa
  .exact h
 have V:=h.wat.fine.lead J;have aH:=Ar h.xfine.fits;have ai:=Ar h.wat.fine.fits;obtain⟨q1,q2,q3⟩:=J4 (x:=x) h.wat.fine J;have R:=KC (x:=x) h.wat.fine J;rw[<-ao]at q1 q2 R;have az:KT w (nF tu xu) (Ag u).nodes (Ag u).bytes:= .inr ⟨u,bu,Y,V.good,V.fits,rfl,rfl⟩;have aq:(d++[s]).length=d.length+1:=Zh;rw[aq]at R
 have M:=UD (∀q,Chg w q []->Cl prog 129 #[nP (nM ⟨W,0,nN⟩),nS (nM ⟨b,o,nN⟩) (d.length+1) c,nF tx xx,nF tu xu,nI nX 0] q (Dh W (nF tv xv) uv (Ag (At t (d++[s]) x)).nodes (Ag (At t (d++[s]) x)).bytes (d.length+1+(Ag x).depth) q)) fun q L=>
  Jl W _ uv _ _ x _ _ U _ _ _ _ 0 _ _ c q (h.wat.blk.kept L) (h.xat.chg L Zh) h.xfine.good h.xfine.fits (az.kept L) ai.1 ai.2.1 Zj ar q1 Zj
 have T:=hZ (Dl h.laid h.wat h.tat.init z);have aA:=hZ ae
 have am:∀y,y∈bu->y≠W/\y≠g:=fun y A=>by
  have aZ:=al y A;have an:=List.nodup_iff_count.1 h.nodup y;have aw:=z.perm.count_eq y;rw[I]at aw;have r:=List.count_pos_iff.2 aZ;simp only[List.count_cons,List.count_append,Vl.ownBlock,Option.toList_some,List.count_nil]at an aw;constructor
  .intro e;subst e;simp at an;omega
  .intro e;subst e;simp at an aw;omega
 have aj:=UD (∀q,Chg w q [W,g]->Cl prog 130 #[nI nX 3,nS (nM ⟨b,o,nN⟩) (d.length+1) c,nF tu xu] q (Et (AC 3 (d++[s]) (Ai u)) q)) fun q L=>by
  have aV:g∈bs:=z.perm.mem_iff.2 vi;have aG:∀y,y∈[W,g]->y∈W::(U++bs):=fun y A=>by simp at A;rcases A with rfl|rfl;simp;simp[aV]
  have ht:=h.tat.kept L (fun y A=>h.apart y (aG y A));exact DE 3 F _ (d++[s]) u _ bu q (h.laid.kept L (fun y A=>h.big y (aG y A))) ht.row ht.lt ht.ok ht.small V (Y.chg L (fun y A f=>by simp at A;have:=am y f;omega))
 have c1:w.cell? ⟨N,0,nN⟩=nM (nS (nM ⟨g,0,nN⟩) vs.length c'):=n.blk.cell 0;have c2:w.cell? ⟨g,pi,nN⟩=nM (nF tu xu):=n.lst.cell rfl pi _ aa
 have aC:=UD (∀k,Chg w k [W]->∃ad,AP (k.setCell ⟨g,pi,nN⟩ (nF tx xx)) (Bz (Cj s x) t d) (nF tv xv) ad/\DJ k (W::(U++bs)) (W::ad)/\(∃v0,k.cell? ⟨g,pi,nN⟩=nM v0)/\(∀j,k.frozen? ⟨g,j,nN⟩=false)/\g∈bs/\g∉rest) fun k hc=>
  Uv h.wat z n I h.nodup h.xat Z Q ah hc
 have HH:=hZ h
 have aR:N≠W:=fun e=>by
  have f:N∈bs:=z.perm.mem_iff.2 (by rw[I];simp);have:=h.nodup;rw[e]at f;simp[f]at this
 have aT:g≠W:=fun e=>by
  have f:g∈bs:=z.perm.mem_iff.2 vi;have:=h.nodup;rw[e]at f;simp[f]at this
 have lW:=h.wat.blk.lt;have lg:=n.lst.lt (g:=g) rfl;have a1:=n.blk.lt;have a5:pi<vs.length:=Zj;have aU:g∈bs:=z.perm.mem_iff.2 vi;have a0:∀(w:Wl),(Instr.typeAssert (nF 123 (nP (nM ⟨N,0,nN⟩))) 66 123 true).run prog w= .ok (nT #[nP (nM ⟨N,0,nN⟩),.bool true]) w:=fun _=>Yb;unfold IR at T;have au:=E3 t x d s;have aL:=hZ P;have aP:=hZ au;have af:(Ag (At t (d++[s]) x)).within=true->Bt (At t (d++[s]) x):=fun D=>h.wat.fine.add h.xfine h.tat.ok X D;have a2:=hZ af;by_cases D:(Ag (At t (d++[s]) x)).within=true
 .rw[LS X D];rw[En (by rw[R];exact D)]at M;have aO:=hZ (af D);obtain⟨m,f⟩:=Ue d.length;rw[<-f]at T M aj aE ar aD|-;clear h X av ao J P z n ag ay ae ah Z ap aa Y V aH ai q1 q2 q3 R az aq f D au I al am aI ax af ak K Q;go_enter func101,ntmps101
  go_wp2_with(first
   |(go_at_call 105;refine(T.o _ wM).mono ?_;rintro e w1 ⟨rfl,r⟩;have S:=UD (Chg w w1 []) (ct cR r);have B1:=UD (Ac w1 w.heap.size Ef 44) ((Ac.new w Ef 44).kept r);clear r)
   |(go_at_call 131;refine(aA.o _ (by exact cg S.o)).mono ?_;rintro e w2 ⟨rfl,H⟩;have B:=UD (Chg w w2 []) (ct S.o H);have B2:=UD (Ac w2 w.heap.size Ef 44) (B1.o.kept H);have d1:=B.o.keeps c1;have d2:=B.o.keeps c2;clear H)
   |(go_at_call 129;refine(M.o _ (by exact cg B.o)).mono ?_;rintro e k ⟨rfl,h3,O⟩;have aM:=hZ h3;have E:=UD (Chg w k [W]) (ct ((B.o.none [W])) O);have B3:=UD (Ac k w.heap.size Ef 44) (B2.o.kept O wN);have e1:=(E.o.cell (p:=⟨N,0,nN⟩) a1 (by simpa using aR)).trans c1;obtain⟨ad,s1,s2,⟨v0,s3⟩,s4,_⟩:=aC.o k E.o;have S1:=hZ s1;have S2:=hZ s2;have a6:=Q6 lg E.o.size;clear h3 O s1 s2)
   |(go_at_call 130;refine(aj.o _ (by exact(E.o.mono (fun _ _ f=>by simp at f;simp[f])).setCell _ _ Zh)).mono ?_;rintro e w5 h5;obtain⟨sv,ys,G,rfl,k1,k2⟩:=h5.at;have K1:=hZ k1;have K2:=hZ k2;obtain⟨sa,sc,rfl,_⟩:=k1.row.form;clear h5 k1 k2)
   |(refine Ae rfl _ _ _ rfl w.heap.size (BJ (AC 3 (d++[s]) (Ai u)) (nS sa (AC 3 (d++[s]) (Ai u)).steps.length sc)) ZN ZN 44 Ef (by exact(B3.o.set_other _ _ wQ).kept K2.o) A0 rfl (Dx _ _ _ _) ?_;intro w6 aK aB aF;have a3:=hZ aK;have aN:=hZ aB;have ab:=hZ aF;clear aK aB aF))
  have aJ:=E.o.size;have aS:Chg w w5 [W,g]:=Chg.trans (b:=_) ((E.o.mono (fun _ _ f=>by simp at f;simp[f])).setCell _ _ Zh) (K2.o.none _);have aQ:Chg w w6 [W,g]:=aS.step ab.o (fun i hi K=>by simp at hi;omega);have hk:=K1.o.kept (w0:=w) ab.o (fun b C=>by simp at C;subst C;simpa using B3.o.lt) (by simpa using aJ);have aW:=AP.lt _ _ _ S1.o;refine bodyPost_ret (uP aN.o) rfl ?_;rw[aL.o];refine⟨nF tv xv,ad,_,ys,G,rfl,hk,⟨?_, ?_,aO.o⟩,S2.o.back aJ,aQ.mono (fun _ _ f=> ?_),fun b C hG=> ?_⟩
  .exact(((aM.o.set_other _ _ (by simp only;exact aT)).kept K2.o).kept ab.o wN)
  .rw[aP.o]
   exact(S1.o.chg K2.o Zh).chg ab.o (fun b C f=>by
    simp at C;subst C;rcases S2.o.come _ (Qg _ f)with h|h
    .exact wK
    .have:=B3.o.lt;omega)
  .simp at f;rcases f with rfl|rfl
   .simp
   .simp[aU]
  .have r:=(K1.o.new b hG).1;have H:k.heap.size<=b:=by simpa using r
   rcases Qh.1 C with rfl|C
   .omega
   .have:=aW b C;simp at this;omega
 .rw[Hv X (by simpa using D)];rw[DO (by rw[R];simpa using D)]at M;obtain⟨m,f⟩:=Ue d.length;rw[<-f]at T M aE ar aD|-;clear h X av ao J P z n ag ay ae ah Z ap aa Y V aH ai q1 q2 q3 R az aq f D au I al am aI ax af ak K Q aj aC;go_enter func101,ntmps101
  go_wp2_with(first
   |(go_at_call 105;refine(T.o _ wM).mono ?_;rintro e w1 ⟨rfl,r⟩;have S:=UD (Chg w w1 []) (ct cR r);have B1:=UD (Ac w1 w.heap.size Ef 44) ((Ac.new w Ef 44).kept r);clear r)
   |(go_at_call 131;refine(aA.o _ (by exact cg S.o)).mono ?_;rintro e w2 ⟨rfl,H⟩;have B:=UD (Chg w w2 []) (ct S.o H);have B2:=UD (Ac w2 w.heap.size Ef 44) (B1.o.kept H);have d1:=B.o.keeps c1;have d2:=B.o.keeps c2;clear H)
   |(go_at_call 129;refine(M.o _ (by exact cg B.o)).mono ?_;rintro e k ⟨he,O⟩;unfold By at he;subst he;have E:=UD (Chg w k []) (ct B.o O);clear O))
  exact⟨rfl,rfl,E.o.none _⟩
end
section
open Go Go.Shelf Go.RowKit Go.Lib Tree Ptr
variable{s:BY}{l:List Tr}{i:Nat}
theorem Xy(h:Em s l.length=nM i)(x:Tr):Gg s (.list l)=0/\i<=l.length/\Cj s x (.list l)= .list (l.insertIdx i x)/\Eo s (.list l)=⟨(Go.Lib.decDigits i).toArray⟩:=by
 unfold Em at h;by_cases a:s=IN
 .rw[Qr a]at h;injection h with h
  subst h;refine⟨by simp only[Gg];rw[Qr a],Q8 _, ?_,by simp only[Eo];rw[Qr a]⟩;simp only[Cj];rw[Qr a,AQ l l.length (Q8 _)];simp
 .rw[Qs a]at h;have c:=Jf h;obtain⟨b,_⟩:=GN.1 h;refine⟨?_,Zj,by simp only[Cj];rw[Qs a,h],by simp only[Eo];rw[Qs a];exact DK b⟩;have d:D5 s.data.toList=nM i:=by rw[b];exact JU i
  simp only[Gg];rw[Qs a,d];simp only;rw[Qr c]
theorem Vn(h:Em s l.length=nN):Gg s (.list l)=ND s/\ND s≠0:=by
 unfold Em at h;by_cases a:s=IN
 .rw[Qr a]at h;cases h
 .rw[Qs a]at h;unfold bL at h;simp only[Gg,ND];rw[Qs a];cases c:D5 s.data.toList with
  |none=>simp
  |some k=>
   rw[c]at h;simp only at h;split at h
   .cases h
   .rename_i b;simp only[Option.isSome_some,if_true];rw[Qs b];simp
def Wc(w f b:Wl)(W a g cap n:Nat)(e:Tr)(v sv:Vl)(d:List Nat):Prop:=
 ∃c,AP (b.setCell ⟨a,0,nN⟩ (nS (nM ⟨g,0,nN⟩) n cap)) e v c/\DJ f d (W::c)/\Ac b a [sv] 74/\Chg w b (W::sv.ownBlock.toList)/\Chg w (b.setCell ⟨a,0,nN⟩ (nS (nM ⟨g,0,nN⟩) n cap)) (W::a::sv.ownBlock.toList)/\
  (∀y,y∈W::a::sv.ownBlock.toList->y∈d)/\W≠a/\W∉sv.ownBlock.toList
theorem ub{p:Prop}(h:p:=by simp only[Qh,Qf];exact .inl (.inr (.inr c))):p:=h
theorem Yt{w C J f:Wl}{W g cap n:Nat}{t x:Tr}{v I uv sv:Vl}{bs j K rest:List Nat}{Z:List BY}{d:Nat}{vs:List Vl}{k:List Nat}(M:Hu w W t v uv bs)(S:Ir w t v bs Z (.list l) (Jn d) K rest)(L:Sy w l d sv vs k)(ae:K=d::(sv.ownBlock.toList++k))(z:(W::(j++bs)).Nodup)(Y:AP w x I j)(hi:i<=l.length)(ad:Cj s x (.list l)= .list (l.insertIdx i x))(P:Chg w C [W])(R:Chg C J [])(ab:AK f (nS (nM ⟨g,0,nN⟩) n cap) 66 (vs.insertIdx i I))(Q:Chg J f sv.ownBlock.toList)(T:sv.ownBlock=nM g\/J.heap.size<=g):
  Wc w C f W d g cap n (Bz (Cj s x) t Z) v sv (W::(j++bs)):=by
 have af:=List.nodup_iff_count.1 z;have X:=S.perm;subst ae;have G:=fun a=>X.count_eq a;have hz:=P.size;have ar:=R.size;have aq:=Q.size;have r:=AP.lt _ _ _ M.at_;have ai:=AP.lt _ _ _ Y;have ap:=M.blk.lt;have m:∀y,y∈(d::(sv.ownBlock.toList++k))++rest->y∈bs:=fun y c=>X.mem_iff.2 c;have p:∀y,y∈j++bs->y≠W:=fun y c e=>by subst e;exact(List.nodup_cons.1 z).1 c
 have q:d∈bs:=m d Zh;have H:∀y,y∈sv.ownBlock.toList->y∈bs:=fun y c=>m y (by simp only[Qh,Qf];exact .inl (.inr (.inl c)))
 have B:((d::(sv.ownBlock.toList++k))++rest).Nodup:=by
  rw[List.nodup_iff_count];intro a;have u:=af a;have o:=G a;simp only[List.count_cons,List.count_append]at u o|-;omega
 have E:d∉sv.ownBlock.toList++k:=(List.nodup_cons.1 (List.nodup_append.1 B).1).1;have O:∀y,y∈j->y∉bs:=fun y c b=>Cd (List.nodup_cons.1 z).2 c b;have ah:∀y,y∈k->y∉sv.ownBlock.toList:=fun y c b=>Cd (List.nodup_cons.1 (List.nodup_append.1 B).1).2 b c;have F:Chg w f (W::sv.ownBlock.toList):=((P.mono (fun _ _ b=>by simp at b;simp[b])).trans (R.none _)).trans (Q.mono (fun _ _ b=>Qg _ b))
 have N:Ac f d [sv] 74:=L.blk.kept F (fun b=>by
  rcases Qh.1 b with h|h
  .exact p d (Qd _ q) h
  .exact E (Qe _ h))
 have A:Chg w (f.setCell ⟨d,0,nN⟩ (nS (nM ⟨g,0,nN⟩) n cap)) (W::d::sv.ownBlock.toList):=(F.mono (fun _ _ b=>by simp only[Qh]at b|-;rcases b with h|h;exact .inl h;exact .inr (.inr h))).setCell _ _ Zh
 have ao:g≠d:=by
  rcases T with h|h
  .intro e;subst e;exact E (Qe _ (by rw[h];simp))
  .have:=r d q;omega
 have ag:Ca k w (f.setCell ⟨d,0,nN⟩ (nS (nM ⟨g,0,nN⟩) n cap)):=A.sameB (fun y c=>r y (m y ub)) (fun y c b=>by
  simp only[Qh]at b;rcases b with h|h|h
  .exact p y (Qd _ (m y ub)) h
  .subst h;exact E (Qd _ c)
  .exact ah y c h)
 have am:AP (f.setCell ⟨d,0,nN⟩ (nS (nM ⟨g,0,nN⟩) n cap)) x I j:=Y.chg A (fun y c b=>by
  simp only[Qh]at c;rcases c with h|h|h
  .exact p y (Qe _ b) h
  .subst h;exact O _ b q
  .exact O y b (H y h))
 obtain⟨an,hO,ak⟩:=L.insert (i:=i) hi am (N.set 0 _) (ab.kept ((Chg.refl f [d]).setCell ⟨d,0,nN⟩ _ Zh) (fun y c b=>by simp[Vl.ownBlock]at c b;omega)) ag
 have al:Ca rest w (f.setCell ⟨d,0,nN⟩ (nS (nM ⟨g,0,nN⟩) n cap)):=A.sameB (fun y c=>r y (m y (Qd _ c))) (fun y c b=>by
  simp only[Qh]at b;rcases b with h|h|h
  .exact p y (Qd _ (m y (Qd _ c))) h
  .subst h;exact Cd B Zh c
  .exact Cd B (by simp only[Qh,Qf];exact .inr (.inl h)) c)
 obtain⟨aa,k1,k2⟩:=S.back (Cj s x) _ _ (by rw[ad];exact hO.pat) al;have U:=fun a=>k2.count_eq a;have V:=fun a=>ak.count_eq a;refine⟨aa,k1, ?_,N,F,A,fun y c=> ?_,fun e=>p d (Qd _ q) e.symm,fun b=>p W (Qd _ (H W b)) rfl⟩
 .rcases T with h|h
  .refine(DJ.refl z).count (fun a=> ?_);have u:=U a;have o:=G a;have D:=V a;rw[h]at o;simp only[Vl.ownBlock,Option.toList_some,List.count_cons,List.count_append,List.count_nil]at u o D|-;omega
  .have ho:DJ C (W::(j++bs)) (W::(d::(j++(k++rest)))):=(DJ.refl z).count (fun a=>by
    have o:=G a;simp only[List.count_cons,List.count_append]at o|-
    omega)
   have aj:g∉W::(d::(j++(k++rest))):=fun b=>by
    have:g<w.heap.size:=by
     simp only[Qh,Qf]at b;rcases b with h|h|h|h|h
     .omega
     .have:=r d q;omega
     .exact ai g h
     .exact r g (m g (by simp only[Qh,Qf];exact .inl (.inr (.inr h))))
     .exact r g (m g (Qd _ h))
    omega
   refine(ho.cons Zj aj).count (fun a=> ?_);have u:=U a;have D:=V a;simp only[Vl.ownBlock,Option.toList_some,List.count_cons,List.count_append,List.count_nil]at u D|-;omega
 .simp only[Qh,Qf]at c|-;rcases c with h|h|h
  .exact .inl h
  .subst h;exact .inr (.inr q)
  .exact .inr (.inr (H y h))
end
section
open _root_.Go.Proofs.Tryz
open Go Go.Shelf Go.RowKit Go.Lib Tree Ptr
variable{s:BY}{a:List BY}{l:List Tr}{t:Tr}
theorem Vc(b:Ah t a=nM (.list l)):EN t (a++[s])=Gg s (.list l):=by rw[Iz,b]
theorem PY(b:Ah t a=nM (.list l)):(Dd t (a++[s])).toI=AC 2 (a++[Eo s (.list l)]) []:=by
 unfold Dd;rw[Qs Zh,List.dropLast_concat,BE,b];rfl
theorem O1(i:Nat)(h:i<10^20):(⟨(Go.Lib.decDigits i).toArray⟩:BY).size<=20:=by
 have:=IX 20 i h;simp only[ByteArray.size,List.size_toArray];omega
theorem VW{w:Wl}{F:Nat->Prop}{g:Vl}{b:List BY}{i:Nat}(d:JC w F g (b++[s]))(e:Bt (.list l))(f:Eo s (.list l)=⟨(Go.Lib.decDigits i).toArray⟩)(hi:i<=65536):
  DR (b++[⟨(Go.Lib.decDigits i).toArray⟩])/\∀x∈b++[⟨(Go.Lib.decDigits i).toArray⟩],x.size<=16777216:=by
 have c:=d.ok.spot Zh e;rw[List.dropLast_concat,BE,f]at c;refine⟨c,fun x a=> ?_⟩;rcases Qf.1 a with a|a
 .exact d.small x (Qe _ a)
 .simp at a;subst a;have:=O1 i Zj;omega
theorem ty{p:Prop}(h:p:=by have hn:=h.nodup;simp[this]at hn):p:=h
theorem Tt(W:Nat)(t x:Tr)(v uv vx:Vl)(bs Z:List Nat)(F:Nat->Prop)(a:Option Addr)(c:Nat)(d:List BY)(s:BY)(w:Wl)(l:List Tr)(h:Sx W t x v uv vx bs Z F (nS a (d.length+1) c) (d++[s]) w)(N:Ah t d=nM (.list l)):
  Cl prog 101 #[nP (nM ⟨W,0,nN⟩),nS a (d.length+1) c,vx] w (Cq W uv (W::(Z++bs)) t x (d++[s]) w):=by
 have al:=Vc (s:=s) N;have an:d++[s]≠[]:=Zh;have ai:Ah t (d++[s]).dropLast=nM (.list l):=by rw[List.dropLast_concat];exact N
 obtain⟨b,o,rfl,av,aH,ax,be,a9,aG⟩:=h.tat.last;have lb:=h.tat.lt b av;obtain⟨tx,xx,rfl⟩:=h.xat.iface;obtain⟨tv,xv,rfl⟩:=h.wat.at_.iface;obtain⟨vp,bp,rest,M⟩:=EU h.wat.at_ _ d _ rfl N;obtain⟨r,sv,vs,fs,rfl,I,aa⟩:=M.at_.list;have aj:=h.wat.fine.lead N;have aK:l.length<=65536:=by have:=aj.many;simp only[Ab]at this;omega
 have aB:=I.at_.length;have aM:=Ar h.xfine.fits;have ap:=Ar h.wat.fine.fits;have Y:=hZ (Dl h.laid h.wat h.tat.init M);unfold Jn at Y
 have ag:∀f,Chg w f []->Cl prog 134 #[nG s,nI nX vs.length] f (Dn s l.length f):=fun f J=>by
  rw[aB];exact YI s l.length f (h.laid.kept J) a9 Zj
 have a0:∀(w:Wl),(Instr.typeAssert (nF 71 (nP (nM ⟨r,0,nN⟩))) 66 123 true).run prog w= .ok (nT #[nP nN,.bool false]) w:=fun _=>Yb;have a1:∀(w:Wl),(Instr.typeAssert (nF 71 (nP (nM ⟨r,0,nN⟩))) 66 71 true).run prog w= .ok (nT #[nP (nM ⟨r,0,nN⟩),.bool true]) w:=fun _=>Yb;obtain⟨A,B,rfl,_⟩:=I.lst.form;have c1:w.cell? ⟨r,0,nN⟩=nM (nS A vs.length B):=I.blk.cell 0;have lW:=h.wat.blk.lt;have aV:=I.blk.lt
 have a4:r≠W:=fun e=>by
  have n:r∈bs:=M.perm.mem_iff.2 (by rw[aa];simp);have:=h.nodup;rw[e]at n;simp[n]at this
 cases ab:Em s l.length with
 |none=>
  obtain⟨T,m2⟩:=Vn (l:=l) ab;rw[LG (al.trans T) m2];have ad:=hZ ag;rw[RM ab]at ad;obtain⟨m,n⟩:=Ue d.length;rw[<-n]at Y aH ax aG|-;clear h al an ai M I aa aj aK aB aM ap ag ab T m2 n N av;go_enter func101,ntmps101
  go_wp2_with(first
   |(go_at_call 105;refine(Y.o _ wM).mono ?_;rintro e U ⟨rfl,u⟩;have D:=UD (Chg w U []) (ct cR u);have d1:=D.o.keeps c1;clear u)
   |(go_at_call 134;refine(ad.o _ (by exact cg D.o)).mono ?_;rintro e w2 ⟨z,he⟩;unfold By at he;subst he;have V:=UD (Chg w w2 []) (ct D.o z);clear z))
  exact⟨rfl,rfl,V.o.none _⟩
 |some i=>
  obtain⟨T,m2,m3,m4⟩:=Xy ab x;have ad:=hZ ag;rw[RN ab]at ad;have am:=al.trans T;have ay:∀ks l',Tr.list l= .obj ks l'->C4 ks (AH (d++[s]))=false:=fun _ _ e=>by cases e
  obtain⟨q1,q2,q3⟩:=MR (x:=x) h.wat.fine an ai (by rw[BE];exact T) ay;have ao:=Oy (x:=x) h.wat.fine an ai (by rw[BE];exact T) ay;have aJ:(d++[s]).length=d.length+1:=Zh;rw[aJ]at ao;unfold NC at q2
  have ae:=UD (∀f,Chg w f []->Cl prog 129 #[nP (nM ⟨W,0,nN⟩),nS (nM ⟨b,o,nN⟩) (d.length+1) c,nF tx xx,.nilIface,nI nX 0] f (Dh W (nF tv xv) uv (Ag (At t (d++[s]) x)).nodes (Ag (At t (d++[s]) x)).bytes (d.length+1+(Ag x).depth) f)) fun f J=>
   Jl W _ uv _ _ x _ _ Z 0 0 _ _ 0 _ _ c f (h.wat.blk.kept J) (h.xat.chg J Zh) h.xfine.good h.xfine.fits (.inl ⟨rfl,rfl,rfl⟩) ap.1 ap.2.1 Zj ax Zj Zj
  have ah:=PY (s:=s) N;rw[m4]at ah;obtain⟨az,aA⟩:=VW h.tat aj m4 Zj;obtain⟨K,aw⟩:=Ue (⟨(Go.Lib.decDigits i).toArray⟩:BY);rw[<-aw]at ah az aA;have aq:∀y,y∈(Vl.slice A vs.length B).ownBlock.toList->y∈bs:=fun y k=>M.perm.mem_iff.2 (by rw[aa];simp only[Qh,Qf];exact .inl (.inr (.inl k)));have aL:=AP.lt _ _ _ h.wat.at_;have aQ:=UD (∀y,y∈(Vl.slice A vs.length B).ownBlock.toList->y<w.heap.size) fun y k=>aL y (aq y k)
  have aF:∀y,y∈(Vl.slice A vs.length B).ownBlock.toList->y≠W:=fun y k e=>by
   have:=aq y k;subst e;exact ty
  have aN:=UD (∀q,Chg w q [W]->Cl prog 133 #[nS A vs.length B,nI nX i,nS (nM ⟨q.heap.size,0,nN⟩) 1 1] (q.alloc (nC #[nF tx xx] 66)) (E1 (q.alloc (nC #[nF tx xx] 66)) (nS A vs.length B) 66 vs.length (vs.insertIdx i (nF tx xx)))) fun q hc=>
   N5 _ (nF tx xx) q.heap.size i vs _ ((I.lst.kept hc (fun y k n=>by simp at n;exact aF y (by rw[k];simp) n)).kept (bs:=[]) ((Chg.refl q []).alloc _) Zh) (Ac.new q _ _) (fun y k e=>by have:=aQ.o y (by rw[k];simp);have:=hc.size;omega) rfl I.at_.one Zj Zj
  have aP:=UD (∀q wI R g cap,Chg w q [W]->Chg q wI []->AK R (nS (nM ⟨g,0,nN⟩) (vs.length+1) cap) 66 (vs.insertIdx i (nF tx xx))->Chg wI R (Vl.slice A vs.length B).ownBlock.toList->((Vl.slice A vs.length B).ownBlock=nM g\/wI.heap.size<=g)->Wc w q R W r g cap (vs.length+1) (Bz (Cj s x) t d) (nF tv xv) (nS A vs.length B) (W::(Z++bs))) fun q wI R g cap E C H k4 k5=>
   Yt h.wat M I aa h.nodup h.xat m2 m3 E C H k4 k5
  have ak:∀y,y∈W::r::(Vl.slice A vs.length B).ownBlock.toList->y∈W::(Z++bs):=fun y k=>by
   rcases Qh.1 k with rfl|k
   .simp
   .rcases Qh.1 k with rfl|k
    .have:y∈bs:=M.perm.mem_iff.2 (by rw[aa];simp);simp[this]
    .simp[aq y k]
  have aC:=UD (∀f,Chg w f (W::r::(Vl.slice A vs.length B).ownBlock.toList)->Cl prog 22 #[nS (nM ⟨b,o,nN⟩) d.length c] f (fun e w'=>∃P Q,e= nR (nS P d.length Q)/\AK w' (nS P d.length Q) 9 (Ad d)/\(∀g,(Vl.slice P d.length Q).ownBlock=nM g->f.heap.size<=g)/\Chg f w' [])) fun f J=>by
   have ht:=h.tat.init.kept J (fun y k=>h.apart y (ak y k));refine(DL F _ _ f ht.row (Gu d) (by rw[Ao];omega)).mono ?_;rintro e U ⟨sk,rfl,u,z,h3⟩;obtain⟨P,Q,rfl,_⟩:=u.form;rw[Ao]at u z|-;exact⟨P,Q,rfl,u,z,h3⟩
  have aO:=UD (∀f,Chg w f (W::r::(Vl.slice A vs.length B).ownBlock.toList)->Cl prog 35 #[nI nX i] f (fun e w'=>e= nR (nG K)/\Chg f w' [])) fun f J=>by
   have:=Ri (i:Int) Zj Zj f (h.laid.kept J (fun y k=>h.big y (ak y k)));rw[Mc,<-aw]at this;exact this
  have aD:=UD (∀f S af,Chg w f (W::r::(Vl.slice A vs.length B).ownBlock.toList)->AK f (nS (nM ⟨S,0,nN⟩) (d.length+1) af) 9 (Ad d++[nG K])->Cl prog 130 #[nI nX 2,nS (nM ⟨S,0,nN⟩) (d.length+1) af,.nilIface] f (Et (AC 2 (d++[K]) []) f)) fun f S af J h9=>by
   have a8:Ad (d++[K])=Ad d++[nG K]:=by simp[Ad]
   rw[<-a8]at h9;exact ME 2 (fun y=>(Vl.slice (nM ⟨S,0,nN⟩) (d.length+1) af).ownBlock=nM y) _ (d++[K]) f (h.laid.kept J (fun y k=>h.big y (ak y k))) h9.toRow (fun y k=>h9.lt k) az aA
  have au:=UD ((Ad d).length=d.length) (Ao d);have aI:(Ag (At t (d++[s]) x)).within=true->Bt (At t (d++[s]) x):=fun O=>h.wat.fine.add h.xfine h.tat.ok am O;have a2:=hZ (E3 t x d s);have aW:=hZ ah;have HH:=hZ h;by_cases O:(Ag (At t (d++[s]) x)).within=true
  .rw[LS am O];rw[En (by rw[ao];exact O)]at ae;have aZ:=hZ (aI O);obtain⟨m,n⟩:=Ue d.length;rw[<-n]at Y ae aD aC au aH ax aG|-;clear h al an ai M I aa aj aK aB aM ap ag ab T m2 m3 m4 n N av ay q1 q2 q3 ao aJ ah az aA aw aq aL aF ak aI O am;go_enter func101,ntmps101
   go_wp2_with(first
   |(go_at_call 105;refine(Y.o _ wM).mono ?_;rintro e U ⟨rfl,u⟩;have D:=UD (Chg w U []) (ct cR u);have B1:=UD (Ac U w.heap.size Ef 44) ((Ac.new w Ef 44).kept u);have d1:=D.o.keeps c1;clear u)
   |(go_at_call 134;refine(ad.o _ (by exact cg D.o)).mono ?_;rintro e w2 ⟨z,rfl⟩;have V:=UD (Chg w w2 []) (ct D.o z);have B2:=UD (Ac w2 w.heap.size Ef 44) (B1.o.kept z);clear z)
   |(go_at_call 129;refine(ae.o _ (by exact cg V.o)).mono ?_;rintro e q ⟨rfl,h3,h4⟩;have aY:=hZ h3;have X:=UD (Chg w q [W]) (ct ((V.o.none [W])) h4);have B3:=UD (Ac q w.heap.size Ef 44) (B2.o.kept h4 wN);have e1:=(X.o.cell (p:=⟨r,0,nN⟩) aV (by simpa using a4)).trans c1;have bh:=Q6 aV X.o.size;clear h3 h4)
   |(go_at_call 133;refine(aN.o q X.o).mono ?_;rintro e R ⟨g,cap,rfl,E,C,H⟩;obtain⟨aR,s1,s2,s3,s4,s5,s6,s7,s8⟩:=aP.o q (q.alloc (nC #[nF tx xx] 66)) R g cap X.o wM E C H;have S1:=hZ s1;have S2:=hZ s2;have S3:=hZ s3;have S4:=hZ s4;have S5:=hZ s5;have S6:=hZ s6;have S7:=hZ s7;have S8:=hZ s8;have e2:=s3.cell 0;have f2:∀j,R.frozen? ⟨r,j,nN⟩=false:=fun j=>s3.frozen j;have bi:=s3.lt;simp only[Qa]at e2;have B5:=UD (Ac (R.setCell ⟨r,0,nN⟩ (nS (nM ⟨g,0,nN⟩) (vs.length+1) cap)) w.heap.size Ef 44) (((B3.o.alloc _).kept C (fun n=>by have:=aQ.o _ n;omega)).set_other _ _ wQ);have C5:=hZ C;clear E C H s1 s2 s3 s4 s5 s6 s7 s8)
   |(go_at_call 22;refine(aC.o _ (by exact S5.o)).mono ?_;rintro e w7 ⟨P,Q,rfl,E,C,H⟩;have L7:=hZ E;have N7:=hZ C;have H7:=hZ H;clear E C H)
   |(go_at_call 35;refine(aO.o _ (by exact(S5.o.trans (H7.o.none _)))).mono ?_;rintro e w8 ⟨rfl,H⟩;have H8:=hZ (H7.o.trans H);have L8:=hZ (L7.o.kept H);clear H)
   |(refine AM rfl _ _ _ rfl 9 Ho 16 underlying27 Cf rfl (nS P m Q) (Ad d) ZN (by exact L8.o.kept (bs:=[]) wM Zh) w8.heap.size (nG K) ZN (by exact Bx rfl _ _) rfl (by rw[au.o];omega) (by rw[au.o];omega) ?_;rw[au.o];intro S af w9 aU aS aT;have L9:=hZ aU;have C9:=UD (Chg w8 w9 (Vl.slice P m Q).ownBlock.toList) ((((Chg.refl w8 []).alloc _).none _).trans aS);have G9:=UD ((Vl.slice P m Q).ownBlock=nM S\/w8.heap.size<=S) (aT.imp id (fun h=>by rw[World.size_alloc]at h;omega));have H9:=UD (Chg (R.setCell ⟨r,0,nN⟩ (nS (nM ⟨g,0,nN⟩) (vs.length+1) cap)) w9 []) (H8.o.fresh C9.o (fun y k=>N7.o y (by simpa using k)));clear aU aS aT)
   |(go_at_call 130;refine(aD.o w9 S af (by exact S5.o.trans (H9.o.none _)) L9.o).mono ?_;rintro e bc h5;obtain⟨bj,ys,G,rfl,E,C⟩:=h5.at;have K1:=hZ E;have K2:=hZ C;obtain⟨sa,sc,rfl,_⟩:=E.row.form;clear h5 E C)
   |(refine uO (ds:=(BJ (AC 2 (d++[K]) []) (nS sa (AC 2 (d++[K]) []).steps.length sc))) (B5.o.kept (H9.o.trans K2.o)) (Dx _ _ _ _) ?_;intro bd aX ar))
   have ba:=X.o.size;have aE:=H9.o.trans K2.o;have bb:w.heap.size<w9.heap.size:=by have:=(B5.o.kept H9.o).lt;exact this
   have a5:Chg w bc (W::(Z++bs)):=(S5.o.mono (fun y _ n=>S6.o y n)).trans (aE.none _);have a3:Chg w bd (W::(Z++bs)):=a5.step ar.o (fun i hi N=>by simp at hi;omega);have hk:=K1.o.kept (w0:=w) ar.o (fun b L=>by simp at L;subst L;exact bb) Zj;have a6:=AP.lt _ _ _ S1.o;have bf:=H9.o.size;refine bodyPost_ret (uP aX.o) rfl ?_;rw[aW.o]
   have a7:w.heap.size∉aR:=fun n=>by
    rcases S2.o.come _ (Qg _ n)with h|h
    .exact wK
    .have:=B3.o.lt;omega
   have bg:W<w9.heap.size:=Zj;refine⟨nF tv xv,aR,_,ys,G,rfl,hk,⟨?_, ?_,aZ.o⟩,S2.o.back ba,a3,fun b L hG=> ?_⟩
   .exact(((((aY.o.alloc _).kept C5.o S8.o).set_other _ _ (by simp only;exact fun e=>S7.o e.symm)).kept aE).kept ar.o wN)
   .rw[a2.o];exact(S1.o.chg aE Zh).chg ar.o (fun b L n=>by simp at L;subst L;exact a7 n)
   .have u:=(K1.o.new b hG).1;rcases Qh.1 L with rfl|L
    .omega
    .have:=a6 b L;omega
  .rw[Hv am (by simpa using O)];rw[DO (by rw[ao];simpa using O)]at ae;obtain⟨m,n⟩:=Ue d.length;rw[<-n]at Y ae aH ax aG|-;clear h al an ai M I aa aj aK aB aM ap ag ab T m2 m3 m4 n N av ay q1 q2 q3 ao aJ ah az aA aw aq aL aF ak aI O am aN aP aD aC aO;go_enter func101,ntmps101
   go_wp2_with(first
   |(go_at_call 105;refine(Y.o _ wM).mono ?_;rintro e U ⟨rfl,u⟩;have D:=UD (Chg w U []) (ct cR u);have B1:=UD (Ac U w.heap.size Ef 44) ((Ac.new w Ef 44).kept u);have d1:=D.o.keeps c1;clear u)
   |(go_at_call 134;refine(ad.o _ (by exact cg D.o)).mono ?_;rintro e w2 ⟨z,rfl⟩;have V:=UD (Chg w w2 []) (ct D.o z);have B2:=UD (Ac w2 w.heap.size Ef 44) (B1.o.kept z);clear z)
   |(go_at_call 129;refine(ae.o _ (by exact cg V.o)).mono ?_;rintro e q ⟨he,h4⟩;unfold By at he;subst he;have X:=UD (Chg w q []) (ct V.o h4);clear h4))
   exact⟨rfl,rfl,X.o.none _⟩
end
section
open Go Go.Shelf Go.RowKit Go.Lib Tree Ptr
def Ee(a i:Nat)(s:BY)(b sv sk:Vl)(j:Nat)(v:Vl):Prop:=
 match j with
 |0=>v= nP (nM ⟨a,0,nN⟩)
 |1=>v= nP (nM ⟨a,0,nN⟩)
 |2=>v= nP (nM ⟨a,0,nN⟩)
 |3=>v= nP (nM ⟨a,0,nN⟩)
 |10=>v= nP (nM ⟨a,0,nN⟩)
 |11=>v= nP (nM ⟨a,0,nN⟩)
 |12=>v= nP (nM ⟨a,0,nN⟩)
 |13=>v= nP (nM ⟨a,0,nN⟩)
 |19=>v= nP (nM ⟨a,0,nN⟩)
 |22=>v= nP (nM ⟨a,0,nN⟩)
 |23=>v= nP (nM ⟨a,0,nN⟩)
 |24=>v= nP (nM ⟨a,0,nN⟩)
 |4=>v= nP (nM ⟨a,1,nN⟩)
 |20=>v= nP (nM ⟨a,1,nN⟩)
 |5=>v=sk
 |14=>v=sv
 |6=>v= nI nX i
 |15=>v= nI nX i
 |7=>v= nG s
 |16=>v=b
 |_=>True
structure Lo(w0:Wl)(b' i:Nat)(s:BY)(vx sv sk:Vl)(ks:List BY)(vs:List Vl)(d:Nat->Bool)(f:Nat->Vl)(w:Wl):Prop where
 chg:Chg w0 w (b'::(sk.ownBlock.toList++sv.ownBlock.toList))
 vals:∀j,d j=true->Ee b' i s vx sv sk j (f j)
 o9:d 9=true->d 5=true
 o18:d 18=true->d 9=true/\d 14=true
 o21:d 21=true->d 18=true
 o25:d 25=true->d 21=true
 blk0:d 21=false->Ac w b' [sv,sk] 125
 blk1:d 21=true->d 25=false->Ac w b' [sv,f 9] 125
 blk2:d 25=true->Ac w b' [f 18,f 9] 125
 keys0:d 9=false->AK w sk 9 (Ad ks)
 items0:d 18=false->AK w sv 66 vs
 r8:d 8=true->d 9=false->∃B,f 8= nS (nM ⟨B,0,nN⟩) 1 1/\Ac w B [nG s] 9/\w0.heap.size<=B
 r17:d 17=true->d 18=false->∃B,f 17= nS (nM ⟨B,0,nN⟩) 1 1/\Ac w B [vx] 66/\w0.heap.size<=B
 r9:d 9=true->∃g cap,f 9= nS (nM ⟨g,0,nN⟩) (ks.length+1) cap/\AK w (nS (nM ⟨g,0,nN⟩) (ks.length+1) cap) 9 (Ad (ks.insertIdx i s))/\(sk.ownBlock=nM g\/w0.heap.size<=g)
 r18:d 18=true->∃g cap,f 18= nS (nM ⟨g,0,nN⟩) (vs.length+1) cap/\AK w (nS (nM ⟨g,0,nN⟩) (vs.length+1) cap) 66 (vs.insertIdx i vx)/\(sv.ownBlock=nM g\/w0.heap.size<=g)/\(f 9).ownBlock≠nM g
structure Nh(w0:Wl)(b':Nat)(sv sk:Vl):Prop where
 lb:b'<w0.heap.size
 lk:∀g,sk.ownBlock=nM g->g<w0.heap.size/\g≠b'/\sv.ownBlock≠nM g
 lv:∀g,sv.ownBlock=nM g->g<w0.heap.size/\g≠b'
section
variable{cap g j:Nat}{p:Prop}{v:Vl}
variable {w0:Wl} {b' i:Nat} {s:BY} {vx sv sk:Vl} {ks:List BY} {vs:List Vl} {d:Nat->Bool} {f:Nat->Vl} {w w':Wl}
theorem Lo.vals'(h:Lo w0 b' i s vx sv sk ks vs d f w)(b:Ee b' i s vx sv sk j v):∀k,BA d j k=true->Ee b' i s vx sv sk k (Eb f j v k):=fun k a=>by
 by_cases e:k=j
 .subst e;rw[Bf];exact b
 .rw[AA f v e];rw[An d e]at a;exact h.vals k a
theorem s0(h:p:=by exact fun e=>(h.items0 e).kept a):p:=h
theorem Lo.plain(h:Lo w0 b' i s vx sv sk ks vs d f w)(q:8≠j)(r:9≠j)(o:17≠j)(p:18≠j)(x:21≠j)(y:25≠j)(u:Ee b' i s vx sv sk j v)(a:Chg w w' []):Lo w0 b' i s vx sv sk ks vs (BA d j) (Eb f j v) w':=by
 have up:∀k,d k=true->BA d j k=true:=fun k t=>by unfold BA;split;rfl;exact t
 refine⟨h.chg.trans (a.none _),h.vals' u, ?_, ?_, ?_, ?_, ?_, ?_, ?_, ?_, ?_, ?_, ?_, ?_, ?_⟩<;>simp only[An d q,An d r,An d o,An d p,An d x,An d y,AA f v q,AA f v r,AA f v o,AA f v p]
 .exact fun e=>up 5 (h.o9 e)
 .exact fun e=>⟨(h.o18 e).1,up 14 (h.o18 e).2⟩
 .exact h.o21
 .exact h.o25
 .exact fun e=>(h.blk0 e).kept a
 .exact fun e n=>(h.blk1 e n).kept a
 .exact fun e=>(h.blk2 e).kept a
 .exact fun e=>(h.keys0 e).kept a
 .exact s0
 .exact fun e n=>by obtain⟨B,b,l,m⟩:=h.r8 e n;exact⟨B,b,l.kept a,m⟩
 .exact fun e n=>by obtain⟨B,b,l,m⟩:=h.r17 e n;exact⟨B,b,l.kept a,m⟩
 .exact fun e=>by obtain⟨g,c,b,l,m⟩:=h.r9 e;exact⟨g,c,b,l.kept a,m⟩
 .exact fun e=>by obtain⟨g,c,b,l,m⟩:=h.r18 e;exact⟨g,c,b,l.kept a,m⟩
theorem wY(h:p:=by obtain⟨g,c,b,j,l⟩:=h.r18 e;exact⟨g,c,b,j.kept a,l⟩):p:=h
theorem wZ(h:p:=by obtain⟨g,c,b,j,l⟩:=h.r9 e;exact⟨g,c,b,j.kept a,l⟩):p:=h
theorem Lo.new8(h:Lo w0 b' i s vx sv sk ks vs d f w):Lo w0 b' i s vx sv sk ks vs (BA d 8) (Eb f 8 (nS (nM ⟨w.heap.size,0,nN⟩) 1 1)) (w.alloc (nC #[nG s] 9)):=by
 have a:Chg w (w.alloc (nC #[nG s] 9)) []:=(Chg.refl w []).alloc _;have n:∀k,k≠8->BA d 8 k=d k:=fun k p=>An d p;have m:∀k,k≠8->Eb f 8 (nS (nM ⟨w.heap.size,0,nN⟩) 1 1) k=f k:=fun k p=>AA f _ p;refine⟨h.chg.trans (a.none _),h.vals' (by simp[Ee]), ?_, ?_, ?_, ?_, ?_, ?_, ?_, ?_, ?_, ?_, ?_, ?_, ?_⟩<;>simp only[n 5 ZM,n 9 ZM,n 14 ZM,n 17 ZM,n 18 ZM,n 21 ZM,n 25 ZM,m 9 ZM,m 17 ZM,m 18 ZM]
 .exact h.o9
 .exact h.o18
 .exact h.o21
 .exact h.o25
 .exact fun e=>(h.blk0 e).kept a
 .exact fun e o=>(h.blk1 e o).kept a
 .exact fun e=>(h.blk2 e).kept a
 .exact fun e=>(h.keys0 e).kept a
 .exact s0
 .exact fun _ _=>⟨w.heap.size,Bf _ _ _,Ac.new w [nG s] _,h.chg.size⟩
 .exact fun e o=>by obtain⟨B,b,j,l⟩:=h.r17 e o;exact⟨B,b,j.kept a,l⟩
 .exact fun e=>wZ
 .exact fun e=>wY
theorem Lo.new17(h:Lo w0 b' i s vx sv sk ks vs d f w):Lo w0 b' i s vx sv sk ks vs (BA d 17) (Eb f 17 (nS (nM ⟨w.heap.size,0,nN⟩) 1 1)) (w.alloc (nC #[vx] 66)):=by
 have a:Chg w (w.alloc (nC #[vx] 66)) []:=(Chg.refl w []).alloc _;have n:∀k,k≠17->BA d 17 k=d k:=fun k p=>An d p;have m:∀k,k≠17->Eb f 17 (nS (nM ⟨w.heap.size,0,nN⟩) 1 1) k=f k:=fun k p=>AA f _ p;refine⟨h.chg.trans (a.none _),h.vals' (by simp[Ee]), ?_, ?_, ?_, ?_, ?_, ?_, ?_, ?_, ?_, ?_, ?_, ?_, ?_⟩<;>simp only[n 5 ZM,n 8 ZM,n 9 ZM,n 14 ZM,n 18 ZM,n 21 ZM,n 25 ZM,m 9 ZM,m 8 ZM,m 18 ZM]
 .exact h.o9
 .exact h.o18
 .exact h.o21
 .exact h.o25
 .exact fun e=>(h.blk0 e).kept a
 .exact fun e o=>(h.blk1 e o).kept a
 .exact fun e=>(h.blk2 e).kept a
 .exact fun e=>(h.keys0 e).kept a
 .exact s0
 .exact fun e o=>by obtain⟨B,b,j,l⟩:=h.r8 e o;exact⟨B,b,j.kept a,l⟩
 .exact fun _ _=>⟨w.heap.size,Bf _ _ _,Ac.new w [vx] _,h.chg.size⟩
 .exact fun e=>wZ
 .exact fun e=>wY
theorem wW(h:p:=by simpa using a):p:=h
theorem Lo.call9(l:Nh w0 b' sv sk)(h:Lo w0 b' i s vx sv sk ks vs d f w)(p:d 9=false)(x:d 5=true)(C:AK w' (nS (nM ⟨g,0,nN⟩) (ks.length+1) cap) 9 (Ad (ks.insertIdx i s)))(c:Chg w w' sk.ownBlock.toList)(D:sk.ownBlock=nM g\/w.heap.size<=g):
  Lo w0 b' i s vx sv sk ks vs (BA d 9) (Eb f 9 (nS (nM ⟨g,0,nN⟩) (ks.length+1) cap)) w':=by
 have n:∀k,k≠9->BA d 9 k=d k:=fun k o=>An d o;have m:∀k,k≠9->Eb f 9 (nS (nM ⟨g,0,nN⟩) (ks.length+1) cap) k=f k:=fun k o=>AA f _ o
 have b:d 18=false:=by cases e:d 18 with
  |false=>rfl
  |true=>rw[(h.o18 e).1]at p;cases p
 have j:d 21=false:=by cases e:d 21 with
  |false=>rfl
  |true=>rw[h.o21 e]at b;cases b
 have v:d 25=false:=by cases e:d 25 with
  |false=>rfl
  |true=>rw[h.o25 e]at j;cases j
 have z:b'∉sk.ownBlock.toList:=fun a=>(l.lk b' wW).2.1 rfl;refine⟨h.chg.trans (c.mono fun _ _ a=>Qg _ (Qe _ a)),h.vals' (by simp[Ee]), ?_, ?_, ?_, ?_, ?_, ?_, ?_, ?_, ?_, ?_, ?_, ?_, ?_⟩<;>simp only[n 5 ZM,n 8 ZM,n 14 ZM,n 17 ZM,n 18 ZM,n 21 ZM,n 25 ZM,m 8 ZM,m 17 ZM,m 18 ZM,BG,Bf]
 .exact fun _=>x
 .rw[b];intro e;cases e
 .exact h.o21
 .exact h.o25
 .exact fun e=>(h.blk0 e).kept c z
 .rw[j];intro e;cases e
 .rw[v];intro e;cases e
 .intro e;cases e
 .exact fun e=>(h.items0 e).kept c (fun y A a=>(l.lk y wW).2.2 A)
 .intro _ e;cases e
 .exact fun e u=>by
   obtain⟨B,q,r,t⟩:=h.r17 e u;exact⟨B,q,r.kept c (fun a=>by have:=(l.lk B wW).1;omega),t⟩
 .exact fun _=>⟨g,cap,rfl,C,D.imp id fun e=>Q7 h.chg.size e⟩
 .rw[b];intro e;cases e
theorem Lo.call18(p:Nh w0 b' sv sk)(h:Lo w0 b' i s vx sv sk ks vs d f w)(r:d 18=false)(j:d 9=true)(B:d 14=true)(D:AK w' (nS (nM ⟨g,0,nN⟩) (vs.length+1) cap) 66 (vs.insertIdx i vx))(o:Chg w w' sv.ownBlock.toList)(b:sv.ownBlock=nM g\/w.heap.size<=g):
  Lo w0 b' i s vx sv sk ks vs (BA d 18) (Eb f 18 (nS (nM ⟨g,0,nN⟩) (vs.length+1) cap)) w':=by
 have n:∀k,k≠18->BA d 18 k=d k:=fun k q=>An d q;have m:∀k,k≠18->Eb f 18 (nS (nM ⟨g,0,nN⟩) (vs.length+1) cap) k=f k:=fun k q=>AA f _ q
 have l:d 21=false:=by cases e:d 21 with
  |false=>rfl
  |true=>rw[h.o21 e]at r;cases r
 have A:d 25=false:=by cases e:d 25 with
  |false=>rfl
  |true=>rw[h.o25 e]at l;cases l
 have C:b'∉sv.ownBlock.toList:=fun a=>(p.lv b' wW).2 rfl;obtain⟨gk,z,v,x,c⟩:=h.r9 j
 have t:gk∉sv.ownBlock.toList:=fun a=>by
  have a:sv.ownBlock=nM gk:=wW
  rcases c with c|c
  .exact(p.lk gk c).2.2 a
  .have:=(p.lv gk a).1;omega
 have E:gk<w.heap.size:=x.lt rfl;refine⟨h.chg.trans (o.mono fun _ _ a=>Qg _ (Qd _ a)),h.vals' (by simp[Ee]), ?_, ?_, ?_, ?_, ?_, ?_, ?_, ?_, ?_, ?_, ?_, ?_, ?_⟩<;>simp only[n 5 ZM,n 8 ZM,n 9 ZM,n 14 ZM,n 17 ZM,n 21 ZM,n 25 ZM,m 8 ZM,m 9 ZM,m 17 ZM,BG,Bf]
 .exact h.o9
 .exact fun _=>⟨j,B⟩
 .exact fun _=>trivial
 .exact h.o25
 .exact fun e=>(h.blk0 e).kept o C
 .rw[l];intro e;cases e
 .rw[A];intro e;cases e
 .rw[j];intro e;cases e
 .intro e;cases e
 .rw[j];intro _ e;cases e
 .intro _ e;cases e
 .exact fun _=>⟨gk,z,v,x.kept o (fun y u a=>by simp[Vl.ownBlock]at u;subst u;exact t a),c⟩
 .refine fun _=>⟨g,cap,rfl,D,b.imp id fun e=>Q7 h.chg.size e, ?_⟩;rw[v];simp only[Vl.ownBlock,ne_eq,Option.some.injEq];intro e;subst e;rcases b with b|b
  .exact t (by simp[b])
  .omega
theorem wV(h:p:=by exact fun _=>⟨gk,v,D,E.kept o (fun y r a=>by simp[Vl.ownBlock]at r a;omega),u⟩):p:=h
theorem Lo.store21(h:Lo w0 b' i s vx sv sk ks vs d f w)(c:Nh w0 b' sv sk)(j:d 21=false)(b:d 18=true):Lo w0 b' i s vx sv sk ks vs (BA d 21) (Eb f 21 undef) (w.setCell ⟨b',1,nN⟩ (f 9)):=by
 have n:∀k,k≠21->BA d 21 k=d k:=fun k p=>An d p;have m:∀k,k≠21->Eb f 21 undef k=f k:=fun k p=>AA f _ p
 have z:d 25=false:=by cases e:d 25 with
  |false=>rfl
  |true=>rw[h.o25 e]at j;cases j
 have l:=(h.o18 b).1;have o:Chg w (w.setCell ⟨b',1,nN⟩ (f 9)) [b']:=(Chg.refl w [b']).setCell _ _ Zh;obtain⟨gk,v,D,E,u⟩:=h.r9 l;obtain⟨g,x,A,B,t,C⟩:=h.r18 b
 have F:gk≠b':=by
  rcases u with q|q
  .exact(c.lk gk q).2.1
  .have:=c.lb;omega
 have G:g≠b':=by
  rcases t with q|q
  .exact(c.lv g q).2
  .have:=c.lb;omega
 refine⟨h.chg.trans (o.mono fun _ _ a=>by simp at a;simp[a]),h.vals' (by simp[Ee]), ?_, ?_, ?_, ?_, ?_, ?_, ?_, ?_, ?_, ?_, ?_, ?_, ?_⟩<;>simp only[n 5 ZM,n 8 ZM,n 9 ZM,n 14 ZM,n 17 ZM,n 18 ZM,n 25 ZM,m 8 ZM,m 9 ZM,m 17 ZM,m 18 ZM,BG]
 .exact h.o9
 .exact h.o18
 .exact fun _=>b
 .exact fun _=>trivial
 .intro e;cases e
 .exact fun _ _=>(h.blk0 j).set 1 (f 9)
 .rw[z];intro e;cases e
 .rw[l];intro e;cases e
 .rw[b];intro e;cases e
 .rw[l];intro _ e;cases e
 .rw[b];intro _ e;cases e
 .exact wV
 .exact fun _=>⟨g,x,A,B.kept o (fun y r a=>by simp[Vl.ownBlock]at r a;omega),t,C⟩
theorem Lo.store25(h:Lo w0 b' i s vx sv sk ks vs d f w)(g:Nh w0 b' sv sk)(z:d 25=false)(c:d 21=true):Lo w0 b' i s vx sv sk ks vs (BA d 25) (Eb f 25 undef) (w.setCell ⟨b',0,nN⟩ (f 18)):=by
 have n:∀k,k≠25->BA d 25 k=d k:=fun k p=>An d p;have m:∀k,k≠25->Eb f 25 undef k=f k:=fun k p=>AA f _ p;have b:=h.o21 c;have l:=(h.o18 b).1;have o:Chg w (w.setCell ⟨b',0,nN⟩ (f 18)) [b']:=(Chg.refl w [b']).setCell _ _ Zh;obtain⟨gk,v,D,E,u⟩:=h.r9 l;obtain⟨j,x,A,B,t,C⟩:=h.r18 b
 have F:gk≠b':=by
  rcases u with q|q
  .exact(g.lk gk q).2.1
  .have:=g.lb;omega
 have G:j≠b':=by
  rcases t with q|q
  .exact(g.lv j q).2
  .have:=g.lb;omega
 refine⟨h.chg.trans (o.mono fun _ _ a=>by simp at a;simp[a]),h.vals' (by simp[Ee]), ?_, ?_, ?_, ?_, ?_, ?_, ?_, ?_, ?_, ?_, ?_, ?_, ?_⟩<;>simp only[n 5 ZM,n 8 ZM,n 9 ZM,n 14 ZM,n 17 ZM,n 18 ZM,n 21 ZM,m 8 ZM,m 9 ZM,m 17 ZM,m 18 ZM,BG]
 .exact h.o9
 .exact h.o18
 .exact h.o21
 .exact fun _=>c
 .rw[c];intro e;cases e
 .intro _ e;cases e
 .exact fun _=>(h.blk1 c z).set 0 (f 18)
 .rw[l];intro e;cases e
 .rw[b];intro e;cases e
 .rw[l];intro _ e;cases e
 .rw[b];intro _ e;cases e
 .exact wV
 .exact fun _=>⟨j,x,A,B.kept o (fun y r a=>by simp[Vl.ownBlock]at r a;omega),t,C⟩
end
variable{s:BY}{ks:List BY}{rest:List Nat}{l:List Tr}{t:Tr}
theorem DJ.put{b:Wl}{c:List Nat}{o:Option Nat}{g:Nat}(h:DJ b c (o.toList++rest))(a:o=nM g\/b.heap.size<=g)(d:b.heap.size<=g->g∉rest):DJ b c (g::rest):=by
 rcases a with a|a
 .rw[a]at h;exact h
 .exact(h.sub (List.sublist_append_right _ _)).cons a (d a)
def Wd(w f d:Wl)(W a:Nat)(e:Tr)(v sv sk:Vl)(c:List Nat):Prop:=
 ∃b,AP d e v b/\DJ f c (W::b)/\Chg w d (W::a::(sk.ownBlock.toList++sv.ownBlock.toList))/\(∀y,y∈W::a::(sk.ownBlock.toList++sv.ownBlock.toList)->y∈c)/\W∉a::(sk.ownBlock.toList++sv.ownBlock.toList)
theorem Yu{w m j:Wl}{W k gk E D P O i:Nat}{x:Tr}{v B uv sv sk:Vl}{bs f C:List Nat}{N:List BY}{d:Nat}{vs:List Vl}{g:List Nat}(G:Hu w W t v uv bs)(J:Ir w t v bs N (.obj ks l) (IR d) C rest)(V:PS w ks l d sv sk vs g)(ab:C=d::(sv.ownBlock.toList++(sk.ownBlock.toList++g)))(u:(W::(f++bs)).Nodup)(M:AP w x B f)(hi:i<=l.length)(aa:Cj s x (.obj ks l)= .obj (ks.insertIdx i s) (l.insertIdx i x))(H:Chg w m [W])(ae:Chg m j (d::(sk.ownBlock.toList++sv.ownBlock.toList)))(X:Ac j d [nS (nM ⟨k,0,nN⟩) P E,nS (nM ⟨gk,0,nN⟩) O D] 125)(Z:AK j (nS (nM ⟨k,0,nN⟩) P E) 66 (vs.insertIdx i B))(Y:AK j (nS (nM ⟨gk,0,nN⟩) O D) 9 (Ad (ks.insertIdx i s)))(ai:sv.ownBlock=nM k\/m.heap.size<=k)(ah:sk.ownBlock=nM gk\/m.heap.size<=gk)(am:gk≠k):
  Wd w m j W d (Bz (Cj s x) t N) v sv sk (W::(f++bs)):=by
 have af:=List.nodup_iff_count.1 u;have L:=J.perm;subst ab;have K:=fun a=>L.count_eq a;have hz:=H.size;have n:=AP.lt _ _ _ G.at_;have ak:=AP.lt _ _ _ M;have aw:=G.blk.lt;have o:∀y,y∈(d::(sv.ownBlock.toList++(sk.ownBlock.toList++g)))++rest->y∈bs:=fun y b=>L.mem_iff.2 b;have A:∀y,y∈f++bs->y≠W:=fun y b e=>by subst e;exact(List.nodup_cons.1 u).1 b
 have q:∀y,y∈d::(sk.ownBlock.toList++sv.ownBlock.toList)->y∈bs:=fun y b=>o y (by
  simp only[Qh,Qf]at b|-;rcases b with h|h|h
  .exact .inl (.inl h)
  .exact .inl (.inr (.inr (.inl h)))
  .exact .inl (.inr (.inl h)))
 have al:((d::(sk.ownBlock.toList++sv.ownBlock.toList))++(g++rest)).Nodup:=by
  rw[List.nodup_iff_count];intro a;have z:=af a;have p:=K a;simp only[List.count_cons,List.count_append]at z p|-;omega
 have ad:∀y,y∈f->y∉bs:=fun y b c=>Cd (List.nodup_cons.1 u).2 b c;have r:Chg w j (W::d::(sk.ownBlock.toList++sv.ownBlock.toList)):=(H.mono (fun _ _ c=>by simp at c;simp[c])).trans (ae.mono (fun _ _ c=>Qg _ c))
 have I:∀y,y∈g++rest->y∉W::d::(sk.ownBlock.toList++sv.ownBlock.toList):=fun y b c=>by
  rcases Qh.1 c with h|h
  .refine A y (Qd _ (o y ?_)) h;rcases Qf.1 b with h|h
   .simp only[Qh,Qf];exact .inl (.inr (.inr (.inr h)))
   .exact Qd _ h
  .exact Cd al h b
 have ag:Ca g w j:=r.sameB (fun y b=>n y (o y (by simp only[Qh,Qf];exact .inl (.inr (.inr (.inr b)))))) (fun y b=>I y (Qe _ b));have ap:Ca rest w j:=r.sameB (fun y b=>n y (o y (Qd _ b))) (fun y b=>I y (Qd _ b))
 have ar:AP j x B f:=M.chg r (fun y b c=>by
  rcases Qh.1 b with h|h
  .exact A y (Qe _ c) h
  .exact ad y c (q y h))
 obtain⟨av,hO,an⟩:=V.insert (i:=i) (s:=s) hi ar X Z Y ag;obtain⟨S,k1,k2⟩:=J.back (Cj s x) _ _ (by rw[aa];exact hO.pat) ap;have aj:=fun a=>k2.count_eq a;have ao:=fun a=>an.count_eq a
 have F:∀y,y∈W::d::(f++(g++rest))->y<w.heap.size:=fun y b=>by
  simp only[Qh,Qf]at b;rcases b with h|h|h|h|h
  .omega
  .have:=n d (q d Zh);omega
  .exact ak y h
  .exact n y (o y (by simp only[Qh,Qf];exact .inl (.inr (.inr (.inr h)))))
  .exact n y (o y (Qd _ h))
 have aq:∀y,y∈sk.ownBlock.toList->y<w.heap.size:=fun y b=>n y (q y (by simp only[Qh,Qf];exact .inr (.inl b)))
 have T:DJ m (W::(f++bs)) (sv.ownBlock.toList++(sk.ownBlock.toList++(W::d::(f++(g++rest))))):=(DJ.refl u).count (fun a=>by
  have p:=K a;simp only[List.count_cons,List.count_append]at p|-
  omega)
 have z:=T.put ai (fun au c=>by
  rcases Qf.1 c with h|h
  .have:=aq k h;omega
  .have:=F k h;omega)
 have p:DJ m (W::(f++bs)) (sk.ownBlock.toList++(k::W::d::(f++(g++rest)))):=z.count (fun a=>by simp only[List.count_cons,List.count_append];omega)
 have U:=p.put ah (fun au c=>by
  rcases Qh.1 c with h|h
  .exact am h
  .have:=F gk h;omega)
 refine⟨S,k1,U.count (fun a=> ?_),r,fun y b=> ?_,fun c=>A W (Qd _ (q W c)) rfl⟩
 .have Q:=aj a;have R:=ao a;simp only[Vl.ownBlock,Option.toList_some,List.count_cons,List.count_append,List.count_nil]at Q R|-;omega
 .rcases Qh.1 b with h|h
  .simp[h]
  .simp[q y h]
theorem SM{a:List BY}(c:Ah t a=nM (.obj ks l))(b:C4 ks s=false):(Dd t (a++[s])).toI=AC 2 (a++[s]) []:=by
 unfold Dd;rw[Qs Zh,List.dropLast_concat,BE,c];show(GF a s (.obj ks l)).toI=_
 unfold GF;simp only;rw[Qs (by simp[b])];rfl
end
section
open _root_.Go.Proofs.Tryz
open Go Go.Shelf Go.RowKit Go.Lib Tree Ptr
variable{s:BY}{ts:List BY}{a bs:List Nat}{l:List Tr}{W:Nat}{p:Prop}{t u x:Tr}{b c:Vl}{w:Wl}
theorem XS(ks:List BY)(i:Nat)(s:BY)(hi:i<=ks.length):(Ad ks).insertIdx i (nG s)=Ad (ks.insertIdx i s):=by
 rw[AQ _ i (by rw[Ao];exact hi),AQ ks i hi];simp[Ad]
theorem wJ(h:p:=by go_simp;exact q _ _ Zh (d.plain ZM ZM ZM ZM ZM ZM (by simp[Ee]) cR)):p:=h
theorem wO(h:p:=by have aG:rS a 10= nP (nM ⟨j,0,nN⟩):=N.at 10 Yb;exact wJ):p:=h
theorem Vj(W:Nat)(t x:Tr)(v uv vx:Vl)(bs Z:List Nat)(F:Nat->Prop)(a:Option Addr)(c:Nat)(p:List BY)(s:BY)(w:Wl)(ks:List BY)(l:List Tr)(h:Sx W t x v uv vx bs Z F (nS a (p.length+1) c) (p++[s]) w)(hl:Ah t p=nM (.obj ks l))(V:C4 ks s=false):
  Cl prog 101 #[nP (nM ⟨W,0,nN⟩),nS a (p.length+1) c,vx] w (Cq W uv (W::(Z++bs)) t x (p++[s]) w):=by
 have ai:=Rk (s:=s) hl;have av:p++[s]≠[]:=Zh;have ap:Ah t (p++[s]).dropLast=nM (.obj ks l):=by rw[List.dropLast_concat];exact hl
 obtain⟨b,o,rfl,aI,a6,aQ,bF,ca,a5⟩:=h.tat.last;have lb:=h.tat.lt b aI;obtain⟨tx,xx,rfl⟩:=h.xat.iface;obtain⟨tv,xv,rfl⟩:=h.wat.at_.iface;obtain⟨vp,bp,rest,hf⟩:=EU h.wat.at_ _ p _ rfl hl;obtain⟨j,sv,sk,vs,fs,rfl,I,ah⟩:=hf.at_.obj;have aq:=h.wat.fine.lead hl;have ab:=aq.good;have a9:l.length<=65536:=by have:=aq.many;simp only[Ab]at this;omega
 have aU:=I.at_.length;have bb:=Ar h.xfine.fits;have ay:=Ar h.wat.fine.fits;have ag:=hZ (Dl h.laid h.wat h.tat.init hf);unfold IR at ag
 have aY:=UD (∀z,Chg w z []->Cl prog 131 #[nP (nM ⟨j,0,nN⟩),nG s] z fun e w'=>∃i:Nat,e= nR (nT #[nI nX i,.bool false])/\Chg z w' []/\Hr ks s i/\i<=ks.length) fun z hx=>by
  have:=Pl ks s j sv sk z (I.blk.kept hx) (I.keys.kept hx) ab.1 bF Zj;rwa[V]at this
 have a0:∀(w:Wl),(Instr.typeAssert (nF 123 (nP (nM ⟨j,0,nN⟩))) 66 123 true).run prog w= .ok (nT #[nP (nM ⟨j,0,nN⟩),.bool true]) w:=fun _=>Yb;obtain⟨D,E,rfl,_⟩:=I.lst.form;obtain⟨A,C,rfl,_⟩:=I.keys.form;have lW:=h.wat.blk.lt;have ce:=I.blk.lt;have au:=AP.lt _ _ _ h.wat.at_;have aw:∀aV l',Tr.obj ks l= .obj aV l'->C4 aV (AH (p++[s]))=false:=fun aV l' e=>by injection e with e1 e2;subst e1;rw[BE];exact V
 obtain⟨q1,q2,q3⟩:=MR (x:=x) h.wat.fine av ap (by rw[BE];rfl) aw;have al:=Oy (x:=x) h.wat.fine av ap (by rw[BE];rfl) aw;have aP:(p++[s]).length=p.length+1:=Zh;rw[aP]at al;unfold NC at q2;rw[BE]at q2
 have ae:=UD (∀z,Chg w z []->Cl prog 129 #[nP (nM ⟨W,0,nN⟩),nS (nM ⟨b,o,nN⟩) (p.length+1) c,nF tx xx,.nilIface,nI nX s.size] z (Dh W (nF tv xv) uv (Ag (At t (p++[s]) x)).nodes (Ag (At t (p++[s]) x)).bytes (p.length+1+(Ag x).depth) z)) fun z hx=>
  Jl W _ uv _ _ x _ _ Z 0 0 _ _ s.size _ _ c z (h.wat.blk.kept hx) (h.xat.chg hx Zh) h.xfine.good h.xfine.fits (.inl ⟨rfl,rfl,rfl⟩) ay.1 ay.2.1 Zj aQ Zj Zj
 have aJ:=SM hl V
 have af:∀y,y∈j::((Vl.slice A (Ad ks).length C).ownBlock.toList++(Vl.slice D vs.length E).ownBlock.toList)->y∈bs:=fun y L=>hf.perm.mem_iff.2 (by
  rw[ah];simp only[Qh,Qf]at L|-;rcases L with h|h|h
  .exact .inl (.inl h)
  .exact .inl (.inr (.inr (.inl h)))
  .exact .inl (.inr (.inl h)))
 have ar:∀y,y∈W::j::((Vl.slice A (Ad ks).length C).ownBlock.toList++(Vl.slice D vs.length E).ownBlock.toList)->y∈W::(Z++bs):=fun y L=>by
  rcases Qh.1 L with rfl|L
  .simp
  .simp[af y L]
 have aj:W∉j::((Vl.slice A (Ad ks).length C).ownBlock.toList++(Vl.slice D vs.length E).ownBlock.toList):=fun n=>by
  have:=af W n;exact ty
 have aR:∀y,List.count y (j::((Vl.slice A (Ad ks).length C).ownBlock.toList++(Vl.slice D vs.length E).ownBlock.toList))<=1:=fun y=>by
  have T:=List.nodup_iff_count.1 h.nodup y;have R:=hf.perm.count_eq y;rw[ah]at R;simp only[List.count_cons,List.count_append]at T R|-;omega
 have aO:(j::((Vl.slice A (Ad ks).length C).ownBlock.toList++(Vl.slice D vs.length E).ownBlock.toList)).Nodup:=List.nodup_iff_count.2 aR
 have hH:∀r,w.heap.size<=r.heap.size->Nh r j (nS D vs.length E) (nS A (Ad ks).length C):=fun r hz=>by
  have aM:=List.nodup_cons.1 aO;refine⟨Zj,fun g O=> ?_,fun g O=> ?_⟩
  .have n:g∈(Vl.slice A (Ad ks).length C).ownBlock.toList:=by rw[O];simp
   have:=au g (af g (Qg _ (Qe _ n)));exact⟨Zj,fun e=>aM.1 (by rw[<-e];exact Qe _ n),fun e=>Cd aM.2 n (by rw[e];simp)⟩
  .have n:g∈(Vl.slice D vs.length E).ownBlock.toList:=by rw[O];simp
   have:=au g (af g (Qg _ (Qd _ n)));exact⟨Zj,fun e=>aM.1 (by rw[<-e];exact Qd _ n)⟩
 have bE:=I.at_.one
 have aB:=UD (∀r,Chg w r [W]->Ac r j [nS D vs.length E,nS A (Ad ks).length C] 125/\AK r (nS A (Ad ks).length C) 9 (Ad ks)/\AK r (nS D vs.length E) 66 vs) fun r hc=>
  ⟨I.blk.kept hc (fun n=>by simp at n;exact aj (by rw[<-n];simp)),I.keys.kept hc (fun g O n=>by simp at n;subst n;exact aj (Qg _ (Qe _ (by rw[O];simp)))),
   I.lst.kept hc (fun g O n=>by simp at n;subst n;exact aj (Qg _ (Qd _ (by rw[O];simp))))⟩
 have aD:=UD (∀i r Q S gk cv ck,i<=l.length->Hr ks s i->Chg w r [W]->Chg r Q (j::((Vl.slice A (Ad ks).length C).ownBlock.toList++(Vl.slice D vs.length E).ownBlock.toList))->
   Ac Q j [nS (nM ⟨S,0,nN⟩) (vs.length+1) cv,nS (nM ⟨gk,0,nN⟩) (ks.length+1) ck] 125->AK Q (nS (nM ⟨S,0,nN⟩) (vs.length+1) cv) 66 (vs.insertIdx i (nF tx xx))->AK Q (nS (nM ⟨gk,0,nN⟩) (ks.length+1) ck) 9 (Ad (ks.insertIdx i s))->
   ((Vl.slice D vs.length E).ownBlock=nM S\/r.heap.size<=S)->((Vl.slice A (Ad ks).length C).ownBlock=nM gk\/r.heap.size<=gk)->gk≠S->Wd w r Q W j (Bz (Cj s x) t p) (nF tv xv) (nS D vs.length E) (nS A (Ad ks).length C) (W::(Z++bs))) fun i r Q S gk cv ck hi bB P k2 k3 k4 k5 k6 k7 k8=>by
  obtain⟨n1,n2,n3,n4⟩:=bB.no V
  have bw:Cj s x (.obj ks l)= .obj (ks.insertIdx i s) (l.insertIdx i x):=by
   simp only[Cj];rw[Qs (by simp[V])];exact If ab.1 ab.2.1 n1 n2 n3 n4
  exact Yu h.wat hf I ah h.nodup h.xat hi bw P k2 k3 k4 k5 k6 k7 k8
 have an:=UD (∀z,Chg w z (W::j::((Vl.slice A (Ad ks).length C).ownBlock.toList++(Vl.slice D vs.length E).ownBlock.toList))->Cl prog 130 #[nI nX 2,nS (nM ⟨b,o,nN⟩) (p.length+1) c,.nilIface] z (Et (AC 2 (p++[s]) []) z)) fun z hx=>by
  have ht:=h.tat.kept hx (fun y L=>h.apart y (ar y L));exact ME 2 F _ (p++[s]) z (h.laid.kept hx (fun y L=>h.big y (ar y L))) ht.row ht.lt ht.ok ht.small
 have aN:(Ag (At t (p++[s]) x)).within=true->Bt (At t (p++[s]) x):=fun X=>h.wat.fine.add h.xfine h.tat.ok ai X;have bk:=hZ (E3 t x p s);have be:=hZ aJ;have HH:=hZ h;have aC:=hZ hH;have aZ:=UD (ks.length=l.length/\vs.length=l.length) ⟨ab.2.1,aU⟩;have b9:ks.length<=65536:=by have:=ab.2.1;omega
 have cb:vs.length<=65536:=Zj;by_cases X:(Ag (At t (p++[s]) x)).within=true
 .rw[LS ai X];rw[En (by rw[al];exact X)]at ae;have bi:=hZ (aN X);have ba:=Ao ks;obtain⟨aW,aT⟩:=Ue ((Ad ks).length);have bJ:=hZ (aT.trans ba);rw[<-aT]at aD an aB aC;obtain⟨m,n⟩:=Ue p.length;rw[<-n]at ag ae an a6 aQ a5|-;clear h ai av ap hf I ah aq ab a9 aU bb ay n hl aI aw q1 q2 q3 al aP aJ af ar aj aR aO hH au aN X V ba aT;go_enter func101,ntmps101
  go_wp2_with(first
   |(go_at_call 105;refine(ag.o _ wM).mono ?_;rintro e w1 ⟨rfl,T⟩;have H1:=UD (Chg w w1 []) (ct cR T);have B1:=UD (Ac w1 w.heap.size Ef 44) ((Ac.new w Ef 44).kept T);clear T)
   |(go_at_call 131;refine(aY.o _ (by exact cg H1.o)).mono ?_;rintro e w2 ⟨i,rfl,R,h3,M⟩;have H2:=UD (Chg w w2 []) (ct H1.o R);have B2:=UD (Ac w2 w.heap.size Ef 44) (B1.o.kept R);have bj:=hZ h3;have a8:=M;clear R h3 M)
   |(go_at_call 129;refine(ae.o _ (by exact cg H2.o)).mono ?_;rintro e r ⟨rfl,h3,M⟩;have bg:=hZ h3;have H3:=UD (Chg w r [W]) (ct ((H2.o.none [W])) M);have B3:=UD (Ac r w.heap.size Ef 44) (B2.o.kept M wN);clear h3 M))
  have b8:i<=vs.length:=by have:=aZ.o;omega
  obtain⟨Y,az⟩:=Ue r.drew;have bm:=hZ az;have aA:Hid (Chg r Y []):=by rw[az];exact hZ ((Chg.refl r []).drew)
  have bc:Y.heap.size=r.heap.size:=by rw[az];rfl
  have bn:=hZ bc;have H4:=UD (Chg w Y [W]) (H3.o.trans (aA.o.none _));have bd:=H4.o.size;have ad:=aC.o Y bd;obtain⟨p1,p2,p3⟩:=aB.o Y H4.o
  have a4:∀f,Lo Y j i s (nF tx xx) (nS D vs.length E) (nS A aW C) ks vs (fun _=>false) f Y:=fun f=>
   ⟨Chg.refl _ _,(fun _ e=>by cases e),(fun e=>by cases e),(fun e=>by cases e),(fun e=>by cases e),(fun e=>by cases e),fun _=>p1,(fun e=>by cases e),(fun e=>by cases e),fun _=>p2,fun _=>p3,(fun e=>by cases e),(fun e=>by cases e),(fun e=>by cases e),(fun e=>by cases e)⟩
  clear az bc;refine wp_region_any Yb ?_;change wpAny _ _ _ _ _ _ _ (World.drew _);rw[<-bm.o];refine Gy _ (Lo Y j i s (nF tx xx) (nS D vs.length E) (nS A aW C) ks vs) Yb ?_ ?_ _ ?_
  .intro ii op a wa dd ho N J ax d K q;have u:=fun k=>ax ⟨k,.data⟩;match ii,ho with
   |0,rfl=>
    exact wO
   |1,rfl=>
    exact wO
   |2,rfl=>
    exact wO
   |3,rfl=>
    have bZ:rS a 91= nP (nM ⟨j,0,nN⟩):=d.vals 2 (u 2 Zh rfl);exact wJ
   |4,rfl=>
    have b0:rS a 92= nP (nM ⟨j,0,nN⟩):=d.vals 3 (u 3 Zh rfl);exact wJ
   |5,rfl=>
    have b1:rS a 93= nP (nM ⟨j,1,nN⟩):=d.vals 4 (u 4 Zh rfl)
    have aF:dd 21=false:=by
     cases e:dd 21 with
     |false=>rfl
     |true=>have aH:=d.o21 e;have h:=d.o9 (d.o18 aH).1;rw[J]at h;cases h
    have H:=d.blk0 aF;have aa:=H.cell 1;simp only[Qa,Qb]at aa;exact wJ
   |6,rfl=>
    have bq:rS a 11= nI nX i:=N.at 11 Yb;exact wJ
   |7,rfl=>
    have h9:rS a 9= nG s:=N.at 9 Yb;exact wJ
   |8,rfl=>
    have br:a.tmps.getD 96 undef= nG s:=d.vals 7 (u 7 Zh rfl);have b4:a.tmps[96]?.getD undef= nG s:=by rw[<-Qp];exact br
    go_simp;exact q _ _ Zh d.new8
   |9,rfl=>
    have d5:=u 5 Zh rfl;have b2:rS a 94= nS A aW C:=d.vals 5 d5;have b3:rS a 95= nI nX i:=d.vals 6 (u 6 Zh rfl);obtain⟨B,aK,aL,bx⟩:=d.r8 (u 8 Zh rfl) J;have b5:rS a 97= nS (nM ⟨B,0,nN⟩) 1 1:=aK;have bu:=d.keys0 J;go_simp;go_at_call 132;refine(QS _ (nG s) B i (Ad ks) wa bu aL (fun g O e=>by have:=(ad.lk g O).1;omega) rfl (Gu ks) (by rw[Ao];exact a8) (by rw[Ao];omega)).mono ?_;rintro e w1 ⟨g,cap,rfl,P,k2,k3⟩;rw[Ao]at P|-;rw[show(Ad ks).insertIdx i (nG s)=Ad (ks.insertIdx i s)from XS ks i s a8]at P;exact q _ _ Zh (d.call9 ad J d5 P k2 k3)
   |10,rfl=>
    exact wO
   |11,rfl=>
    have b7:rS a 99= nP (nM ⟨j,0,nN⟩):=d.vals 10 (u 10 Zh rfl);exact wJ
   |12,rfl=>
    have bK:rS a 100= nP (nM ⟨j,0,nN⟩):=d.vals 11 (u 11 Zh rfl);exact wJ
   |13,rfl=>
    have bL:rS a 101= nP (nM ⟨j,0,nN⟩):=d.vals 12 (u 12 Zh rfl);exact wJ
   |14,rfl=>
    have bM:rS a 102= nP (nM ⟨j,0,nN⟩):=d.vals 13 (u 13 Zh rfl)
    have aF:dd 21=false:=by
     cases e:dd 21 with
     |false=>rfl
     |true=>have aH:=d.o21 e;have h:=(d.o18 aH).2;rw[J]at h;cases h
    have H:=d.blk0 aF;have aa:=H.cell 0;simp only[Qa,Qb]at aa;exact wJ
   |15,rfl=>
    have bq:rS a 11= nI nX i:=N.at 11 Yb;exact wJ
   |16,rfl=>
    have R:rS a 2= nF tx xx:=N.at 2 Yb;exact wJ
   |17,rfl=>
    have bo:a.tmps.getD 105 undef= nF tx xx:=d.vals 16 (u 16 Zh rfl);have bP:a.tmps[105]?.getD undef= nF tx xx:=by rw[<-Qp];exact bo
    go_simp;exact q _ _ Zh d.new17
   |18,rfl=>
    have a2:=u 14 Zh rfl;have d9:=ax ⟨9,.chain⟩ Zh rfl;have bN:rS a 103= nS D vs.length E:=d.vals 14 a2;have bO:rS a 104= nI nX i:=d.vals 15 (u 15 Zh rfl);obtain⟨B,aK,aL,bx⟩:=d.r17 (u 17 Zh rfl) J;have bQ:rS a 106= nS (nM ⟨B,0,nN⟩) 1 1:=aK;have bv:=d.items0 J;go_simp;go_at_call 133;refine(N5 _ (nF tx xx) B i vs wa bv aL (fun g O e=>by have:=(ad.lv g O).1;omega) rfl bE Zj Zj).mono ?_;rintro e w1 ⟨g,cap,rfl,P,k2,k3⟩;exact q _ _ Zh (d.call18 ad J d9 a2 P k2 k3)
   |19,rfl=>
    have bX:rS a 89= nP (nM ⟨j,0,nN⟩):=d.vals 0 (u 0 Zh rfl);exact wJ
   |20,rfl=>
    have bS:rS a 108= nP (nM ⟨j,0,nN⟩):=d.vals 19 (u 19 Zh rfl);exact wJ
   |21,rfl=>
    have a3:=ax ⟨18,.chain⟩ Zh rfl;have bT:rS a 109= nP (nM ⟨j,1,nN⟩):=d.vals 20 (u 20 Zh rfl);obtain⟨g,cap,q1,q2,q3⟩:=d.r9 (d.o18 a3).1;have b6:rS a 98= nS (nM ⟨g,0,nN⟩) (ks.length+1) cap:=q1;have H:=d.blk0 J;have aa:=H.cell 1;have bA:=H.frozen 1;simp only[Qa,Qb]at aa;have ak:=d.store21 ad J a3;rw[q1]at ak;go_simp;exact q _ _ Zh ak
   |22,rfl=>
    have bY:rS a 90= nP (nM ⟨j,0,nN⟩):=d.vals 1 (u 1 Zh rfl);exact wJ
   |23,rfl=>
    have bU:rS a 110= nP (nM ⟨j,0,nN⟩):=d.vals 22 (u 22 Zh rfl);exact wJ
   |24,rfl=>
    have bV:rS a 111= nP (nM ⟨j,0,nN⟩):=d.vals 23 (u 23 Zh rfl);exact wJ
   |25,rfl=>
    have aE:=ax ⟨21,.chain⟩ Zh rfl;have bW:rS a 112= nP (nM ⟨j,0,nN⟩):=d.vals 24 (u 24 Zh rfl);obtain⟨g,cap,q1,q2,q3,q4⟩:=d.r18 (d.o21 aE);have bR:rS a 107= nS (nM ⟨g,0,nN⟩) (vs.length+1) cap:=q1;have H:=d.blk1 aE J;have aa:=H.cell 0;have bA:=H.frozen 0;simp only[Qa,Qb]at aa;have ak:=d.store25 ad J aE;rw[q1]at ak;go_simp;exact q _ _ Zh ak
   |_+26,ho=>exact absurd ho Zh
  .intro a Q dd N hd d;obtain⟨gk,ck,f1,f2,f3⟩:=d.r9 (hd 9 ZM);obtain⟨S,cv,g1,g2,g3,g4⟩:=d.r18 (hd 18 ZM);have H:=d.blk2 (hd 25 ZM);rw[f1]at H g4;rw[g1]at H;have a7:gk≠S:=fun e=>g4 (by rw[e];rfl);have ao:=d.chg;obtain⟨a1,s1,s2,s3,s4,s5⟩:=aD.o i Y Q S gk cv ck (by have:=aZ.o;omega) bj.o H4.o ao H g2 f2 g3 f3 a7
   have aS:∀y,y∈W::(Z++bs)->y<w.heap.size:=fun y L=>by
    rcases Qh.1 L with h|h
    .omega
    .rcases Qf.1 h with h|h
     .exact AP.lt _ _ _ HH.o.xat _ h
     .exact AP.lt _ _ _ HH.o.wat.at_ _ h
   have aX:=UD (Ac Q w.heap.size Ef 44) ((B3.o.kept aA.o).kept ao (fun n=>by have:=aS _ (s4 _ (Qg _ n));omega));have bh:=UD (Ac Q W [nF tv xv,nI nX (Ag (At t (p++[s]) x)).nodes,nI nX (Ag (At t (p++[s]) x)).bytes,uv] 69) ((bg.o.kept aA.o).kept ao s5);have S1:=hZ s1;have S2:=hZ s2;have S3:=hZ s3;have S4:=hZ s4;have bl:=hZ aS;clear d f1 f2 f3 g1 g2 g3 g4 H a7 ao s1 s2 s3 s4 s5 hd aS a4 ad p1 p2 p3;obtain⟨fu,hu,rfl⟩:=N.fin2 [89,90,91,92,93,94,95,96,97,98,99,100,101,102,103,104,105,106,107,108,109,110,111,112] Yb;clear N hu
   go_wp2_with(first
    |(go_at_call 130;refine(an.o _ S3.o).mono ?_;rintro e bH h5;obtain⟨cf,ys,G,rfl,P,k2⟩:=h5.at;have K1:=hZ P;have K2:=hZ k2;obtain⟨sa,sc,rfl,_⟩:=P.row.form;clear h5 P k2)
    |(refine uO (ds:=(BJ (AC 2 (p++[s]) []) (nS sa (AC 2 (p++[s]) []).steps.length sc))) (aX.o.kept K2.o) (Dx _ _ _ _) ?_;intro bI bf am))
   have bG:w.heap.size<Q.heap.size:=aX.o.lt;have bz:Chg w bH (W::(Z++bs)):=(S3.o.mono (fun y _ n=>S4.o y n)).trans (K2.o.none _);have bt:Chg w bI (W::(Z++bs)):=bz.step am.o (fun i hi hl=>by simp at hi;omega);have V:=K1.o.kept (w0:=w) am.o (fun b U=>by simp at U;subst U;exact bG) Zj;have bC:=AP.lt _ _ _ S1.o;refine bodyPost_ret (uP bf.o) rfl ?_;rw[be.o];have cc:=B3.o.lt;have cd:=bn.o
   have bD:w.heap.size∉a1:=fun n=>by
    rcases S2.o.come _ (Qg _ n)with h|h
    .have:=bl.o _ h;omega
    .omega
   refine⟨nF tv xv,a1,_,ys,G,rfl,V,⟨?_, ?_,bi.o⟩,S2.o.back bd,bt,fun b U hG=> ?_⟩
   .exact(bh.o.kept K2.o).kept am.o wN
   .rw[bk.o];exact(S1.o.chg K2.o Zh).chg am.o (fun b U n=>by simp at U;subst U;exact bD n)
   .have T:=(K1.o.new b hG).1;rcases Qh.1 U with rfl|U
    .omega
    .have:=bC b U;omega
  .exact a4 _
 .rw[Hv ai (by simpa using X)];rw[DO (by rw[al];simpa using X)]at ae;obtain⟨m,n⟩:=Ue p.length;rw[<-n]at ag ae a6 aQ a5|-;clear h ai av ap hf I ah aq ab a9 aU bb ay n hl aI aw q1 q2 q3 al aP aJ af ar aj aR aO hH au aN X V aD an aB aC HH;go_enter func101,ntmps101
  go_wp2_with(first
   |(go_at_call 105;refine(ag.o _ wM).mono ?_;rintro e w1 ⟨rfl,T⟩;have H1:=UD (Chg w w1 []) (ct cR T);clear T)
   |(go_at_call 131;refine(aY.o _ (by exact cg H1.o)).mono ?_;rintro e w2 ⟨i,rfl,R,h3,M⟩;have H2:=UD (Chg w w2 []) (ct H1.o R);clear R h3 M)
   |(go_at_call 129;refine(ae.o _ (by exact cg H2.o)).mono ?_;rintro e r ⟨he,M⟩;unfold By at he;subst he;have H3:=UD (Chg w r []) (ct H2.o M);clear M))
  exact⟨rfl,rfl,H3.o.none _⟩
theorem Vb{p:Tr}(h:AX p=true)(s:BY):Gg s p=5:=by
 cases p<;>first|rfl|simp[AX]at h
theorem Xo(W:Nat)(t x:Tr)(v e d:Vl)(bs g:List Nat)(F:Nat->Prop)(a:Option Addr)(c:Nat)(ts:List BY)(w:Wl)(h:Sx W t x v e d bs g F (nS a ts.length c) ts w):
  Cl prog 101 #[nP (nM ⟨W,0,nN⟩),nS a ts.length c,d] w (Cq W e (W::(g++bs)) t x ts w):=by
 by_cases j:ts=[]
 .subst j;exact Tv W t x v e d bs g F a c w h
 .obtain⟨b,s,rfl⟩:∃b s,ts=b++[s]:=⟨ts.dropLast,ts.getLast j,(List.dropLast_concat_getLast j).symm⟩;have o:(b++[s]).length=b.length+1:=Zh;rw[o]at h|-;have n:∃q y,d= nF q y:=h.xat.iface;cases f:Ah t b with
  |none=>
   have i:EN t (b++[s])=4:=by rw[Iz,f]
   rw[LG i ZM];exact Tu W t v e d bs F a c b s w _ h.laid h.wat h.tat f n
  |some p=>
   by_cases k:AX p=true
   .have i:EN t (b++[s])=5:=by rw[Iz,f];exact Vb k s
    rw[LG i ZM];exact Ts W t p v e d bs F a c b s w _ h.laid h.wat h.tat f k n
   .cases p with
    |list l=>exact Tt W t x v e d bs g F a c b s w l h f
    |obj ks l=>
     cases m:C4 ks s with
     |true=>exact Vk W t x v e d bs g F a c b s w ks l h f m
     |false=>exact Vj W t x v e d bs g F a c b s w ks l h f m
    |_=>simp[AX]at k
def Uu(ts:List BY)(u:Tr):Bq:=AC 3 ts (Ai u)
def Du(W:Nat)(b:Vl)(a:List Nat)(t x:Tr)(ts:List BY)(w:Wl)(e:Ending)(w':Wl):Prop:=match Ah t ts with
 |none=>AZ 4 a w e w'
 |some u=>if(Ag (AE t ts x)).within=true then ET W b a (AE t ts x) (Uu ts u) w e w' else AZ 3 a w e w'
theorem RP(h:Ah t ts=nN):Du W b a t x ts w=AZ 4 a w:=by
 funext e w';unfold Du;rw[h]
theorem J0(h:Ah t ts=nM u)(b:(Ag (AE t ts x)).within=false):Du W c a t x ts w=AZ 3 a w:=by
 funext e w';unfold Du;rw[h];simp only;rw[Qs (by simp[b])]
theorem Pr(h:Ah t ts=nM u)(c:(Ag (AE t ts x)).within=true):Du W b a t x ts w=ET W b a (AE t ts x) (Uu ts u) w:=by
 funext e w';unfold Du;rw[h];simp only;rw[Qr c]
theorem Im{v d:Vl}{F:Nat->Prop}(f:Br w)(i:Hu w W t v d bs)(g:JC w F c ts)(j:Ah t ts=nN):
  ∀a,Chg w a []->Cl prog 105 #[nP (nM ⟨W,0,nN⟩),c] a (fun e w'=>e=By 4/\Chg a w' []):=fun a h=>by
 have hi:=g.kept h;have b:=i.kept h;have:=LI W t v _ _ d bs F _ ts a (f.kept h) b.blk b.at_ b.fine hi.row hi.ok hi.small;rw[Jw j]at this;exact this.mono fun e w' h=>⟨h.2,h.1⟩
theorem Tz(W:Nat)(t:Tr)(v r k:Vl)(bs:List Nat)(F:Nat->Prop)(a:Option Addr)(n c:Nat)(ts:List BY)(w:Wl)(p:List Nat)(f:Br w)(h:Hu w W t v r bs)(g:JC w F (nS a n c) ts)(j:Ah t ts=nN)(o:∃q x,k= nF q x):
  Cl prog 103 #[nP (nM ⟨W,0,nN⟩),nS a n c,k] w (AZ 4 p w):=by
 obtain⟨u,y,rfl⟩:=o;have m:=hZ (Im f h g j);clear f h g j;go_enter func103,ntmps103
 go_wp2_with(first
  |(go_at_call 105;refine(m.o _ (by exact ot)).mono ?_;rintro e s ⟨i,d⟩;unfold By at i;subst i;have l:=UD (Chg w s []) (Chg.trans (b:=_) (by exact ot) d);clear d))
 exact⟨rfl,rfl,l.o.none _⟩
theorem TA(W:Nat)(t x:Tr)(v C Z:Vl)(bs u:List Nat)(F:Nat->Prop)(a:Option Addr)(c:Nat)(w:Wl)(h:Sx W t x v C Z bs u F (nS a 0 c) [] w):
  Cl prog 103 #[nP (nM ⟨W,0,nN⟩),nS a 0 c,Z] w (Du W C (W::(u++bs)) t x [] w):=by
 have z:Ah t []=nM t:=rfl;have y:AE t [] x=x:=rfl;have aj:=h.wat.blk.lt;obtain⟨L,N,rfl⟩:=h.xat.iface;obtain⟨K,M,rfl⟩:=h.wat.at_.iface;have V:=Ar h.xfine.fits;have A:=Ar h.wat.fine.fits;have P:=hZ (Dl h.laid h.wat h.tat (Ir.here h.wat.at_))
 have s:=UD (∀g,Chg w g []->Cl prog 129 #[nP (nM ⟨W,0,nN⟩),nS a 0 c,nF L N,nF K M,nI nX 0] g (Dh W (nF K M) C (Ag x).nodes (Ag x).bytes (0+(Ag x).depth) g)) fun g l=>
  Jl W _ C _ _ x _ _ u _ _ (Ag x).nodes (Ag x).bytes 0 a 0 c g (h.wat.blk.kept l) (h.xat.chg l Zh) h.xfine.good h.xfine.fits (h.wat.was.kept l) A.1 A.2.1 Zj Zj Zj Zj
 have I:W∉bs:=fun n=>by have:=h.nodup;simp[n]at this
 have ad:=UD (∀g,Chg w g [W]->Cl prog 130 #[nI nX 3,nS a 0 c,nF K M] g (Et (AC 3 [] (Ai t)) g)) fun g l=>by
  have B:=h.tat.kept l (fun b d=>by simp at d;subst d;exact h.apart b Zh);exact DE 3 F _ [] t _ bs g (h.laid.kept l (fun b d=>by simp at d;subst d;exact h.big b Zh)) B.row B.lt B.ok B.small h.wat.fine (h.wat.at_.chg l (fun b d=>by simp at d;subst d;exact I))
 have m:=hZ h;rw[Nat.zero_add]at s;by_cases o:(Ag x).within=true
 .rw[Pr z (by rw[y];exact o)];rw[En (by rw[E6];exact o)]at s;have al:W≠w.heap.size:=Zj;clear h z y V A o I;go_enter func103,ntmps103
  go_wp2_with(first
   |(go_at_call 105;refine(P.o _ (by exact ot)).mono ?_;rintro e D ⟨rfl,f⟩;have r:=UD (Chg w D []) (Chg.trans (b:=_) (by exact ot) f);have B9:=UD (Ac D w.heap.size Ef 44) ((Ac.new w Ef 44).kept f);clear f)
   |(go_at_call 129;refine(s.o _ (by(have:=r.o;exact oq))).mono ?_;rintro e p ⟨rfl,f,k⟩;have aa:=hZ f;have q:=UD (Chg w p [W]) (Chg.trans (b:=_) (by(have:=(r.o.none [W]);exact oq)) k);have O:=UD (Ac p w.heap.size Ef 44) (B9.o.kept k wN);have d0:=f.cell 0;have f0:∀j,p.frozen? ⟨W,j,nN⟩=false:=fun j=>f.frozen j;have am:=f.lt;simp only[Qa]at d0;clear f k)
   |(go_at_call 130;refine(ad.o _ (by(have:=q.o;exact oq))).mono ?_;rintro e w2 k;obtain⟨sv,ys,G,rfl,J,Y⟩:=k.at;have Q:=hZ J;have H:=hZ Y;obtain⟨sa,sc,rfl,_⟩:=J.row.form;clear k J Y)
   |(refine Ae rfl _ _ _ rfl w.heap.size (BJ (AC 3 [] (Ai t)) (nS sa (AC 3 [] (Ai t)).steps.length sc)) ZN ZN 44 Ef (by exact(O.o.set_other _ _ wQ).kept H.o) A0 rfl (Dx _ _ _ _) ?_;intro w6 X S U;have ai:=hZ X;have ab:=hZ S;have E:=hZ U;clear X S U))
  have ah:=q.o.size;have af:Chg w w2 [W]:=Chg.trans (b:=_) (q.o.setCell _ _ Zh) (H.o.none _);have R:Chg w w6 [W]:=af.step E.o (fun i hi hl=>by simp at hi;omega);have ae:W∉u:=fun n=>by have:=m.o.nodup;simp[n]at this
  have ag:=AP.lt _ _ _ m.o.xat;have ak:=m.o.wat.blk.lt;have hk:=Q.o.kept (w0:=w) E.o (fun b d=>by simp at d;subst d;simpa using O.o.lt) (by simpa using ah)
  refine bodyPost_ret (uP ab.o) rfl
   ⟨nF L N,u,_,ys,G,rfl,hk,⟨?_,m.o.xat.chg R (fun b d=>by simp at d;subst d;exact ae),m.o.xfine⟩, ?_,R.mono (fun _ _ n=>by simp at n;simp[n]),fun b d hG=> ?_⟩
  .exact(((aa.o.set 0 (nF L N)).kept H.o).kept E.o wN)
  .exact wU
  .have f:=(Q.o.new b hG).1;have k:p.heap.size<=b:=by simpa using f
   rcases Qh.1 d with rfl|d
   .omega
   .have:=ag b d;omega
 .rw[J0 z (by rw[y];simpa using o)];rw[DO (by rw[E6];simpa using o)]at s;clear h z y V A o I;go_enter func103,ntmps103
  go_wp2_with(first
   |(go_at_call 105;refine(P.o _ (by exact ot)).mono ?_;rintro e D ⟨rfl,f⟩;have r:=UD (Chg w D []) (Chg.trans (b:=_) (by exact ot) f);clear f)
   |(go_at_call 129;refine(s.o _ (by(have:=r.o;exact oq))).mono ?_;rintro e p ⟨T,k⟩;unfold By at T;subst T;have q:=UD (Chg w p []) (Chg.trans (b:=_) (by(have:=r.o;exact oq)) k);clear k))
  exact⟨rfl,rfl,q.o.none _⟩
theorem Uk{ks:List BY}(h:Dy (.obj ks l) s=nM u):C4 ks s=true/\l[A5 ks s]? =nM u:=by
 unfold Dy at h;simp only[D6]at h;by_cases a:C4 ks s=true
 .rw[Qr a]at h;exact⟨a,h⟩
 .rw[Qs a]at h;cases h
theorem Rd(h:Dy (.list l) s=nM u):∃i,bL s l.length=nM i/\l[i]? =nM u:=by
 unfold Dy at h;simp only[D6]at h;cases hi:bL s l.length with
 |none=>rw[hi]at h;cases h
 |some i=>rw[hi]at h;exact⟨i,rfl,h⟩
theorem wL(h:p:=by
 injection e with _ e
 injection e with e
 injection e with e
 injection e with e
 subst e;have:=a.blk.cell 0;rw[d]at this;simp only[Qa]at this;injection this with this
 subst this;simp[Vl.ownBlock]):p:=h
theorem AP.head{b g n c:Nat}{j:Ti}(h:AP w t (nF j (nP (nM ⟨b,0,nN⟩))) bs)(hi:Ab t≠[])(d:w.cell? ⟨b,0,nN⟩=nM (nS (nM ⟨g,0,nN⟩) n c)):b∈bs/\g∈bs:=by
 cases t with
 |list l=>
  obtain⟨f,sv,vs,i,e,a,rfl⟩:=h.list;unfold Jn at e;exact wL
 |obj ks l=>
  obtain⟨f,sv,sk,vs,i,e,a,rfl⟩:=h.obj;unfold IR at e;exact wL
 |_=>exact absurd rfl hi
theorem Dv.same{w w':Wl}:∀(ts:List BY) (t:Tr) (v k:Vl) (bs:List Nat),AP w t v bs->Ca bs w w'->Dv w t v ts k->Dv w' t v ts k
 |[],_,_,_,_,_,_,h=>h
 |s::r,t,v,k,bs,x,m,h=>by
  simp only[Dv]at h|-;obtain⟨i,u,b,g,n,c,z,H,o,j,B,l,p,C⟩:=h;obtain⟨I,L,M,J,O,A,rest,N,d,a,f,q⟩:=Fx x o j;subst B;injection d with K d
  injection d with d
  injection d with d
  injection d with d
  subst d;rw[l]at a;injection a with a
  injection a with a
  injection a with a
  injection a with a
  subst a;rw[p]at f;injection f with f
  subst f;have F:Ab t≠[]:=by intro e;rw[e]at j;simp at j
  obtain⟨D,E⟩:=x.head F l;exact⟨i,u,b,g,n,c,z,H,o,j,rfl,(World.cell?_of_block (w:=w) (m b D)).trans l,(World.cell?_of_block (w:=w) (m g E)).trans p,Dv.same r u z k A q.at_ (m.mono fun y G=>q.perm.mem_iff.2 (Qe _ G)) C⟩
theorem bG(W:Nat)(t x u:Tr)(v X vx:Vl)(bs Z:List Nat)(F:Nat->Prop)(a:Option Addr)(c:Nat)(d:List BY)(s:BY)(w:Wl)(ks:List BY)(l:List Tr)(h:Sx W t x v X vx bs Z F (nS a (d.length+1) c) (d++[s]) w)(M:Ah t d=nM (.obj ks l))(am:Dy (.obj ks l) s=nM u):
  Cl prog 103 #[nP (nM ⟨W,0,nN⟩),nS a (d.length+1) c,vx] w (Du W X (W::(Z++bs)) t x (d++[s]) w):=by
 obtain⟨I,V⟩:=Uk am;have aG:d++[s]≠[]:=Zh;have N:Ah t (d++[s])=nM u:=by rw[BW,M];exact am
 have az:=(T9 (x:=x) (ts:=d++[s]) h.wat.fine aG (by rw[List.dropLast_concat];exact M) (by rw[BE];exact I)).1;obtain⟨b,o,rfl,ak,ax,aF,aR,a7,aO⟩:=h.tat.last;have lb:=h.tat.lt b ak;obtain⟨tx,xx,rfl⟩:=h.xat.iface;obtain⟨tv,xv,rfl⟩:=h.wat.at_.iface;obtain⟨vp,bp,rest,H⟩:=EU h.wat.at_ _ d _ rfl M;obtain⟨K,sv,sk,vs,fs,rfl,z,L⟩:=H.at_.obj;have ad:=(h.wat.fine.lead M).good;have aI:=Dk (Cp.1 I);have ar:=S0 (s:=s) z ad.1 aR a7 I;obtain⟨pi,U⟩:=Ue (A5 ks s);rw[<-U]at ar aI V;have aQ:pi<l.length:=by have:=ad.2.1;omega
 obtain⟨vu,bu,ag,ae,av⟩:=z.at_.get V;obtain⟨_,_,_,_,aV,aY,r2,_,B,q6,q7,aC⟩:=Fx H.at_ (s:=s) (by simp only[D6];rw[Qr I,<-U]) V;have aD:=H.snoc aC;obtain⟨tu,xu,rfl⟩:=ae.iface;have aT:=z.at_.length
 obtain⟨g,c',rfl,bb⟩:∃g c',sv= nS (nM ⟨g,0,nN⟩) vs.length c'/\vs.length<=c':=by
  rcases z.lst.one with⟨_,e⟩|h
  .rw[e]at ag;simp at ag
  .exact h
 have a8:aV= nF tu xu:=by
  unfold IR at B;injection B with _ B
  injection B with B
  injection B with B
  injection B with B
  subst B;have C:=z.blk.cell 0;simp only[Qa]at C;rw[q6]at C;injection C with C
  injection C with C
  injection C with C
  injection C with C
  subst C;have e7:=z.lst.cell rfl pi _ ag;rw[q7]at e7;injection e7
 subst a8;have ab:=h.wat.fine.lead N;have aS:=Ar h.xfine.fits;have an:=Ar h.wat.fine.fits;obtain⟨q1,q2,q3⟩:=J4 (x:=x) h.wat.fine N;have af:=KC (x:=x) h.wat.fine N;have aJ:KT w (nF tu xu) (Ag u).nodes (Ag u).bytes:= .inr ⟨u,bu,ae,ab.good,ab.fits,rfl,rfl⟩;have aE:(d++[s]).length=d.length+1:=Zh;rw[aE]at af
 have Q:=UD (∀q,Chg w q []->Cl prog 129 #[nP (nM ⟨W,0,nN⟩),nS (nM ⟨b,o,nN⟩) (d.length+1) c,nF tx xx,nF tu xu,nI nX 0] q (Dh W (nF tv xv) X (Ag (AE t (d++[s]) x)).nodes (Ag (AE t (d++[s]) x)).bytes (d.length+1+(Ag x).depth) q)) fun q E=>
  Jl W _ X _ _ x _ _ Z _ _ _ _ 0 _ _ c q (h.wat.blk.kept E) (h.xat.chg E Zh) h.xfine.good h.xfine.fits (aJ.kept E) an.1 an.2.1 Zj aF q1 Zj
 have ai:=hZ (Dl h.laid h.wat h.tat aD)
 have aw:∀y,y∈bu->y≠W/\y≠g:=fun y k=>by
  have a9:=av y k;have ay:=List.nodup_iff_count.1 h.nodup y;have aH:=H.perm.count_eq y;rw[L]at aH;have r:=List.count_pos_iff.2 a9;simp only[List.count_cons,List.count_append,Vl.ownBlock,Option.toList_some,List.count_nil]at ay aH;constructor
  .intro e;subst e;simp at ay;omega
  .intro e;subst e;simp at ay aH;omega
 have al:∀y,y∈bp->y∈bs:=fun y k=>H.perm.mem_iff.2 (Qe _ k);have aP:g∈bs:=al g (by rw[L];simp[Vl.ownBlock])
 have aa:W∉bp:=fun f=>by
  have:=al W f;exact ty
 have T:∀y,y∈[W,g]->y∈W::(Z++bs):=fun y k=>by simp at k;rcases k with rfl|rfl;simp;simp[aP]
 have aq:=UD (∀q,Chg w q [W,g]->Cl prog 130 #[nI nX 3,nS (nM ⟨b,o,nN⟩) (d.length+1) c,nF tu xu] q (Et (AC 3 (d++[s]) (Ai u)) q)) fun q E=>by
  have ht:=h.tat.kept E (fun y k=>h.apart y (T y k));exact DE 3 F _ (d++[s]) u _ bu q (h.laid.kept E (fun y k=>h.big y (T y k))) ht.row ht.lt ht.ok ht.small ab (ae.chg E (fun y k f=>by simp at k;have:=aw y f;omega))
 have c1:w.cell? ⟨K,0,nN⟩=nM (nS (nM ⟨g,0,nN⟩) vs.length c'):=z.blk.cell 0
 have au:=UD (∀n,Chg w n [W]->∃aj,AP (n.setCell ⟨g,pi,nN⟩ (nF tx xx)) (Bz (Cj s x) t d) (nF tv xv) aj/\DJ n (W::(Z++bs)) (W::aj)/\(∃v0,n.cell? ⟨g,pi,nN⟩=nM v0)/\(∀j,n.frozen? ⟨g,j,nN⟩=false)/\g∈bs/\g∉rest) fun n S=>
  Uv h.wat H z L h.nodup h.xat V I U S
 have HH:=hZ h;have aN:K≠W:=fun e=>aa (by rw[L,<-e];simp);have a3:g≠W:=fun e=>aa (by rw[L,<-e];simp[Vl.ownBlock]);have lW:=h.wat.blk.lt;have lg:=z.lst.lt (g:=g) rfl;have ba:=z.blk.lt;have bc:pi<vs.length:=Zj
 have ap:=UD (∀n,Ac n W [nF tv xv,nI nX (Ag (AE t (d++[s]) x)).nodes,nI nX (Ag (AE t (d++[s]) x)).bytes,X] 69->Chg w n [W]->Cl prog 135 #[nP (nM ⟨W,0,nN⟩),nS (nM ⟨b,o,nN⟩) d.length c] n (fun e w'=>e= nR (nT #[IR K,.bool true])/\Chg n w' [])) fun n D S=>by
  have hi:=h.tat.init.kept S (fun y k=>h.apart y (T y (by simp at k;simp[k])));have a5:AP n t (nF tv xv) bs:=h.wat.at_.chg S (fun y k f=>by simp at k;subst k;have hn:=h.nodup;simp[f]at hn);have a6:Ca bs w n:=S.sameB (AP.lt _ _ _ h.wat.at_) (fun y k f=>by simp at f;subst f;have hn:=h.nodup;simp[k]at hn);have:=LJ W t _ _ _ X bs F _ d n (h.laid.kept S (fun y k=>h.big y (T y (by simp at k;simp[k])))) D a5 h.wat.fine hi.row hi.ok hi.small Zj;rw[Iv M]at this;refine this.mono fun e w' ⟨r,aV,aY,bf,h2,R⟩=>⟨?_,r⟩;rw[h2,(Dv.same d t _ _ bs h.wat.at_ a6 H.reach).inj R.reach]
 have aM:=UD (∀q,Chg w q [W]->Cl prog 131 #[nP (nM ⟨K,0,nN⟩),nG s] q (fun e w'=>e= nR (nT #[nI nX pi,.bool true])/\Chg q w' [])) fun q E=>
  (Pl ks s K _ sk q (z.blk.kept E (fun f=>by simp at f;exact aN f)) (z.keys.kept E (fun y k f=>by simp at f;subst f;exact aa (by rw[L];simp[k]))) ad.1 aR Zj).mono fun e w' ⟨i,r,h2,R,_⟩=>⟨by rw[r,I,(R.yes I).1,U],h2⟩
 have a1:b≠W:=fun e=>h.apart W Zh (by rw[<-e];exact ak);have a0:∀(w:Wl),(Instr.typeAssert (nF 123 (nP (nM ⟨K,0,nN⟩))) 66 123 true).run prog w= .ok (nT #[nP (nM ⟨K,0,nN⟩),.bool true]) w:=fun _=>Yb;have aA:Bz (Cj s x) t d=AE t (d++[s]) x:=by rw[<-E3,az]
 rw[aA]at au;have aB:(Ag (AE t (d++[s]) x)).within=true->Bt (AE t (d++[s]) x):=fun J=>h.wat.fine.set h.xfine N J;by_cases J:(Ag (AE t (d++[s]) x)).within=true
 .rw[Pr N J];rw[En (by rw[af];exact J)]at Q;have aX:=hZ (aB J);obtain⟨m,f⟩:=Ue d.length;rw[<-f]at ai Q aq ap ax aF aO|-;clear h aG az N H z ad aI ar U V ag ae ab aS an q1 q2 q3 af aJ aE f J L av aw aT aQ aB ak M I am aC aD al aa T aA B q6 q7;go_enter func103,ntmps103
  go_wp2_with(first
   |(go_at_call 105;refine(ai.o _ wM).mono ?_;rintro e w1 ⟨rfl,r⟩;have Y:=UD (Chg w w1 []) (ct cR r);have B1:=UD (Ac w1 w.heap.size Ef 44) ((Ac.new w Ef 44).kept r);clear r)
   |(go_at_call 129;refine(Q.o _ (by exact cg Y.o)).mono ?_;rintro e n ⟨rfl,R,A⟩;have aL:=hZ R;have O:=UD (Chg w n [W]) (ct ((Y.o.none [W])) A);have B3:=UD (Ac n w.heap.size Ef 44) (B1.o.kept A wN);have e0:=(O.o.cell (p:=⟨b,o+m,nN⟩) lb (by simpa using a1)).trans ax;have bd:=Q6 lb O.o.size;clear R A)
   |(go_at_call 135;refine(ap.o n aL.o O.o).mono ?_;unfold IR;rintro e w4 ⟨rfl,A⟩;have aK:=hZ A;have H4:=UD (Chg w w4 [W]) (O.o.trans (A.none _));have e1:=aK.o.keeps e0;clear A)
   |(go_at_call 131;refine(aM.o _ (by exact cg H4.o)).mono ?_;rintro e w5 ⟨rfl,A⟩;have ao:=UD (Chg n w5 []) (aK.o.trans (ct cR A));have P:=UD (Chg w w5 [W]) (O.o.trans (ao.o.none _));have B5:=UD (Ac w5 w.heap.size Ef 44) (B3.o.kept ao.o);have d1:=(P.o.cell (p:=⟨K,0,nN⟩) ba (by simpa using aN)).trans c1;obtain⟨aj,s1,s2,⟨v0,s3⟩,s4,_⟩:=au.o w5 P.o;have S1:=hZ s1;have S2:=hZ s2;have be:=Q6 lg P.o.size;clear A s1 s2)
   |(go_at_call 130;refine(aq.o _ (by exact(P.o.mono (fun _ _ f=>by simp at f;simp[f])).setCell _ _ Zh)).mono ?_;rintro e w6 h5;obtain⟨sv,ys,G,rfl,k1,k2⟩:=h5.at;have K1:=hZ k1;have K2:=hZ k2;obtain⟨sa,sc,rfl,_⟩:=k1.row.form;clear h5 k1 k2)
   |(refine uO (ds:=(BJ (AC 3 (d++[s]) (Ai u)) (nS sa (AC 3 (d++[s]) (Ai u)).steps.length sc))) ((B5.o.set_other _ _ wQ).kept K2.o) (Dx _ _ _ _) ?_;intro w7 aW ah))
  have aU:=P.o.size;have a2:Chg w w6 [W,g]:=Chg.trans (b:=_) ((P.o.mono (fun _ _ f=>by simp at f;simp[f])).setCell _ _ Zh) (K2.o.none _);have aZ:Chg w w7 [W,g]:=a2.step ah.o (fun i hi M=>by simp at hi;omega);have hk:=K1.o.kept (w0:=w) ah.o (fun b D=>by simp at D;subst D;simpa using B5.o.lt) (by simpa using aU);have a4:=AP.lt _ _ _ S1.o;refine bodyPost_ret (uP aW.o) rfl ?_;refine⟨nF tv xv,aj,_,ys,G,rfl,hk,⟨?_, ?_,aX.o⟩,S2.o.back aU,aZ.mono (fun _ _ f=> ?_),fun b D hG=> ?_⟩
  .exact(((aL.o.kept ao.o).set_other _ _ (by simp only;exact a3)).kept K2.o).kept ah.o wN
  .exact(S1.o.chg K2.o Zh).chg ah.o (fun b D f=>by
    simp at D;subst D;rcases S2.o.come _ (Qg _ f)with h|h
    .exact wK
    .have:=B5.o.lt;omega)
  .simp at f;rcases f with rfl|rfl
   .simp
   .simp[aP]
  .have r:=(K1.o.new b hG).1;have h2:w5.heap.size<=b:=by simpa using r
   rcases Qh.1 D with rfl|D
   .omega
   .have:=a4 b D;simp at this;omega
 .rw[J0 N (by simpa using J)];rw[DO (by rw[af];simpa using J)]at Q;obtain⟨m,f⟩:=Ue d.length;rw[<-f]at ai Q ax aF aO|-;clear h aG az N H z ad aI ar U V ag ae ab aS an q1 q2 q3 af aJ aE f J L av aw aT aQ aB ak M I am aC aD al aa T aA B q6 q7 aq ap au aM;go_enter func103,ntmps103
  go_wp2_with(first
   |(go_at_call 105;refine(ai.o _ wM).mono ?_;rintro e w1 ⟨rfl,r⟩;have Y:=UD (Chg w w1 []) (ct cR r);have B1:=UD (Ac w1 w.heap.size Ef 44) ((Ac.new w Ef 44).kept r);clear r)
   |(go_at_call 129;refine(Q.o _ (by exact cg Y.o)).mono ?_;rintro e n ⟨he,A⟩;unfold By at he;subst he;have O:=UD (Chg w n []) (ct Y.o A);clear A))
  exact⟨rfl,rfl,O.o.none _⟩
end
section
open Go Go.Shelf Go.RowKit Go.Lib Tree Ptr
theorem XK{w i:Wl}{W g c pi:Nat}{t x:Tr}{v s uv:Vl}{bs n C rest:List Nat}{M:List BY}{l:List Tr}{k:Nat}{f:Tr->Tr}{vs:List Vl}{m:List Nat}{u:Tr}(S:Hu w W t v uv bs)(K:Ir w t v bs M (.list l) (Jn k) C rest)(D:Sy w l k (nS (nM ⟨g,0,nN⟩) vs.length c) vs m)(U:C=k::((Vl.slice (nM ⟨g,0,nN⟩) vs.length c).ownBlock.toList++m))(G:(W::(n++bs)).Nodup)(hx:AP w x s n)(hu:l[pi]? =nM u)(T:f (.list l)= .list (l.set pi x))(q:Chg w i [W]):
  ∃z,AP (i.setCell ⟨g,pi,nN⟩ s) (Bz (f) t M) v z/\DJ i (W::(n++bs)) (W::z)/\(∃v0,i.cell? ⟨g,pi,nN⟩=nM v0)/\(∀j,i.frozen? ⟨g,j,nN⟩=false)/\g∈bs/\g∉rest:=by
 have J:=List.nodup_iff_count.1 G;have I:=K.perm;have H:=fun a=>I.count_eq a;have ah:bs.Perm (C++rest):=I;subst U;have E:∀y,y∈n++bs->y≠W:=fun y h e=>by subst e;exact(List.nodup_cons.1 G).1 h
 have B:∀y,y∈(k::((Vl.slice (nM ⟨g,0,nN⟩) vs.length c).ownBlock.toList++m))++rest->y∈bs:=fun y h=>I.mem_iff.2 h
 have P:Sy i l k (nS (nM ⟨g,0,nN⟩) vs.length c) vs m:=by
  have F:∀y,y∈k::((Vl.slice (nM ⟨g,0,nN⟩) vs.length c).ownBlock.toList++m)->y∉[W]:=fun y h d=>by
   simp at d;exact E y (Qd _ (B y (Qe _ h))) d
  exact⟨D.blk.kept q (F _ Zh),D.lst.kept q (fun y h=>F y (by simp only[Qh,Qf];exact .inr (.inl (by rw[h];simp)))),
   D.at_.chg q (fun y h d=>F y (by simp only[Qh,Qf];exact .inr (.inr d)) h)⟩
 have af:AP i x s n:=hx.chg q (fun y h d=>by simp at h;exact E y (Qe _ d) h)
 have Z:(n++(k::((Vl.slice (nM ⟨g,0,nN⟩) vs.length c).ownBlock.toList++m))).Nodup:=by
  exact wP
 obtain⟨g',c',e,ae,X,bu,r,ag,aa,ab,Q⟩:=P.set hu Z af;injection e with e _ _
 injection e with e
 injection e with e _ _
 subst e;have Y:g∈bs:=B g wX
 have L:g∉rest:=Cd (l:=k::((Vl.slice (nM ⟨g,0,nN⟩) vs.length c).ownBlock.toList++m)) (by
  rw[List.nodup_iff_count];intro a;have o:=J a;have p:=H a;simp only[List.count_cons,List.count_append]at o p|-
  omega) wX
 have R:=AP.lt _ _ _ S.at_;have V:Chg w (i.setCell ⟨g,pi,nN⟩ s) [W,g]:=(q.mono (fun _ _ d=>by simp at d;simp[d])).setCell _ _ Zh
 have ad:Ca rest w (i.setCell ⟨g,pi,nN⟩ s):=V.sameB (fun b A=>R b (B b (Qd _ A))) (fun b A d=>by
  simp at d;rcases d with rfl|rfl
  .exact E b (Qd _ (B b (Qd _ A))) rfl
  .exact L A)
 obtain⟨z,k1,k2⟩:=K.back (f) _ _ (by rw[T];exact Q.pat) ad;refine⟨z,k1,(DJ.refl G).count (fun a=> ?_),ae,X,Y,L⟩;have o:=k2.count_eq a;have p:=H a;have N:=aa.count_eq a;have O:=ab.count_eq a;exact tl
end
end Go.Proofs.YtamgbmcchhmojaaGreatDoor

/- Part 21 of the proof of coreBase. -/
import Derived.Test.YtkfnkppdhcaeoaaGreatDoorM20
set_option maxRecDepth 100000
set_option maxHeartbeats 32000000
set_option linter.all false
namespace Go.Proofs.YtkfnkppdhcaeoaaGreatDoor
open Go renaming Calls->Cl,Value->Vl,World->Wl
open Go.Value renaming agg->nA,iface->nF,int->nI,pointer->nP,slice->nS,string->nG,tuple->nT
open Go.IntKind renaming i64->nX
open Go.Ending renaming returned->nR
open Go.Obj renaming cells->nC
open Option renaming none->nN,some->nM
section
open _root_.Go.Proofs.Tryz
open Go Go.Shelf Go.RowKit Go.Lib Tree Ptr
structure Dr(w0 w':Wl)(o:Bq)(sv:Vl)(ys:List Vl)(G:Nat->Prop):Prop where
 row:As w' sv 6 o.steps.length ys
 inn:SE G sv
 steps:Cr w' G o.steps ys
 new:∀b,G b->w0.heap.size<=b/\b<w'.heap.size
theorem Et.at{o:Bq}{w:Wl}{e:Ending}{w':Wl}(h:Et o w e w'):∃sv ys G,e= nR (nA (BJ o sv).toArray)/\Dr w w' o sv ys G/\Chg w w' []:=by
 obtain⟨sv,ys,G,a,b,c,d,f,g⟩:=h;exact⟨sv,ys,G,a,⟨b,c,d,f⟩,g⟩
theorem Dr.kept{w0 c w2 d:Wl}{o:Bq}{sv:Vl}{ys:List Vl}{G:Nat->Prop}{cs:List Nat}(h:Dr c w2 o sv ys G)(e:Chg w2 d cs)(g:∀b,b∈cs->b<c.heap.size)(j:w0.heap.size<=c.heap.size):Dr w0 d o sv ys G:=by
 have f:BZ G w2 d:=e.keepsF (fun b a=>(h.new b a).2) (fun b i a=>by have:=g b i;have:=(h.new b a).1;omega);exact⟨h.row.keptF h.inn f,h.inn,h.steps.kept f (fun _ h=>h),fun b a=>by have:=h.new b a;have:=e.size;omega⟩
structure Hu(w:Wl)(W:Nat)(t:Tr)(v uv:Vl)(bs:List Nat):Prop where
 blk:Ac w W [v,nI nX (Ag t).nodes,nI nX (Ag t).bytes,uv] 98
 at_:AP w t v bs
 fine:Bt t
structure JC(w:Wl)(F:Nat->Prop)(sl:Vl)(ts:List BY):Prop where
 row:Ax w F sl (Ad ts)
 lt:∀b,F b->b<w.heap.size
 ok:DR ts
 small:∀s∈ts,s.size<=16777216
 cap:∀a n c,sl= nS a n c->n<=c
def ET(W:Nat)(f:Vl)(c:List Nat)(d:Tr)(o:Bq)(w:Wl)(e:Ending)(w':Wl):Prop:=
 ∃g a sv ys G,e= nR (nA (BJ o sv).toArray)/\Dr w w' o sv ys G/\Hu w' W d g f a/\DJ w c (W::a)/\Chg w w' c/\∀b,b∈W::a->¬G b
def AZ(n:Nat)(a:List Nat)(w:Wl)(e:Ending)(w':Wl):Prop:=e=By n/\Chg w w' a
def Cq(W:Nat)(b:Vl)(a:List Nat)(t x:Tr)(ts:List BY)(w:Wl)(e:Ending)(w':Wl):Prop:=
 if EN t ts≠0 then AZ (EN t ts) a w e w'
 else if(Ag (At t ts x)).within=true then ET W b a (At t ts x) (Dd t ts).toI w e w' else AZ 3 a w e w'
theorem LG{W:Nat}{c:Vl}{a:List Nat}{t x:Tr}{ts:List BY}{w:Wl}{n:Nat}(h:EN t ts=n)(b:n≠0):Cq W c a t x ts w=AZ n a w:=by
 funext e w';unfold Cq;rw[h,Qr b]
theorem Hv{W:Nat}{c:Vl}{a:List Nat}{t x:Tr}{ts:List BY}{w:Wl}(h:EN t ts=0)(b:(Ag (At t ts x)).within=false):Cq W c a t x ts w=AZ 3 a w:=by
 funext e w';unfold Cq;rw[h,Qs Zh,Qs (by simp[b])]
theorem LS{W:Nat}{b:Vl}{a:List Nat}{t x:Tr}{ts:List BY}{w:Wl}(h:EN t ts=0)(c:(Ag (At t ts x)).within=true):Cq W b a t x ts w=ET W b a (At t ts x) (Dd t ts).toI w:=by
 funext e w';unfold Cq;rw[h,Qs Zh,Qr c]
theorem JC.kept{w w':Wl}{F:Nat->Prop}{c:Vl}{ts:List BY}{bs:List Nat}(h:JC w F c ts)(a:Chg w w' bs)(e:∀b,b∈bs->¬F b:=by simp):JC w' F c ts:=
 ⟨h.row.kept (a.keepsF h.lt e) (fun _ h=>h),fun b d=>Q6 (h.lt b d) a.size,h.ok,h.small,h.cap⟩
theorem Hu.kept{w w':Wl}{W:Nat}{t:Tr}{v e:Vl}{bs cs:List Nat}(h:Hu w W t v e bs)(c:Chg w w' cs)(d:∀b,b∈cs->b∉W::bs:=by simp):Hu w' W t v e bs:=
 ⟨h.blk.kept c (fun a=>d W a Zh),h.at_.chg c (fun b f a=>d b f (by simp[a])),h.fine⟩
theorem JC.init{w:Wl}{F:Nat->Prop}{a:Option Addr}{c:Nat}{d:List BY}{s:BY}(h:JC w F (nS a (d.length+1) c) (d++[s])):JC w F (nS a d.length c) d:=by
 refine⟨?_,h.lt,⟨fun x f=>h.ok.right x (by simp[f]),fun x f=>h.ok.small x (by simp[f]), ?_⟩,fun x f=>h.small x (by simp[f]),fun q A r e=>by
  have:=h.cap _ _ _ rfl;injection e with _ k l;omega⟩
 .obtain⟨q,r,e,n⟩:=h.row.cell
  injection e with j k l
  subst j;subst l;by_cases m:d=[]
  .subst m;exact .inl ⟨rfl,a,c,rfl⟩
  .have z:0<d.length:=List.length_pos_iff.2 m
   obtain⟨b,o,rfl,t,_⟩:=n 0 _ (Q9 (by simp[Ad]));refine .inr ⟨b,o,c,by rw[Ao],t,fun i v p=> ?_⟩
   obtain⟨y,B,g,_,u⟩:=n i v (by
    have hi:=(Qc.1 p).1
    rw[show Ad (d++[s])=Ad d++[nG s]from by simp[Ad],List.getElem?_append_left hi];exact p)
   injection g with g
   injection g with j k
   subst j;subst k;exact u
 .have:=h.ok.many;rw[Qk]at this;omega
theorem JC.last{w:Wl}{F:Nat->Prop}{a:Option Addr}{c:Nat}{d:List BY}{s:BY}(h:JC w F (nS a (d.length+1) c) (d++[s])):∃b o,a=nM ⟨b,o,nN⟩/\F b/\w.cell? ⟨b,o+d.length,nN⟩=nM (nG s)/\d.length+1<=65536/\Utf.Al s=true/\s.size<=16777216/\d.length+1<=c:=by
 obtain⟨l,m,e,j⟩:=h.row.cell
 injection e with f n g
 subst f;subst g;obtain⟨b,o,rfl,i,k⟩:=j d.length (nG s) (by simp[Ad]);exact⟨b,o,rfl,i,k,by have:=h.ok.many;simpa using this,h.ok.right s Zh,h.small s Zh,h.cap _ _ _ rfl⟩
theorem Iz(t:Tr)(a:List BY)(s:BY):EN t (a++[s])=match Ah t a with
  |none=>4
  |some p=>Gg s p:=by
 unfold EN;rw[Qs Zh,List.dropLast_concat,BE];cases Ah t a<;>rfl
theorem Tu(W:Nat)(t:Tr)(v y z:Vl)(bs:List Nat)(F:Nat->Prop)(a:Option Addr)(c:Nat)(d:List BY)(s:BY)(w:Wl)(G:List Nat)(n:Br w)(p:Hu w W t v y bs)(g:JC w F (nS a (d.length+1) c) (d++[s]))(r:Ah t d=nN)(E:∃H x,z= nF H x):
  Cl prog 166 #[nP (nM ⟨W,0,nN⟩),nS a (d.length+1) c,z] w (AZ 4 G w):=by
 obtain⟨b,o,rfl,l,C,D,J,K,B⟩:=g.last;obtain⟨M,N,rfl⟩:=E;have L:=g.lt b l
 have j:=UD (∀f,Chg w f []->Cl prog 170 #[nP (nM ⟨W,0,nN⟩),nS (nM ⟨b,o,nN⟩) d.length c] f (fun e w'=>Chg f w' []/\e=By 4)) fun f h=>by
  have hi:=g.init.kept h;have i:=p.kept h;have:=LI W t v _ _ y bs F _ d f (n.kept h) i.blk i.at_ i.fine hi.row hi.ok hi.small;rwa[Jw r]at this
 obtain⟨m,u⟩:=Ue d.length
 rw[<-u]at j C D B|-;clear n p g r u l;go_enter func166,ntmps166
 go_wp2_with(first
  |(go_at_call 170;refine(j.o _ (by exact cg cR)).mono ?_;rintro e I ⟨k,q⟩;unfold By at q;subst q;have A:=UD (Chg w I []) (ct cR k);clear k))
 exact⟨rfl,rfl,A.o.none _⟩
theorem Ts(W:Nat)(t p:Tr)(v C D:Vl)(bs:List Nat)(F:Nat->Prop)(a:Option Addr)(c:Nat)(d:List BY)(s:BY)(w:Wl)(N:List Nat)(u:Br w)(y:Hu w W t v C bs)(i:JC w F (nS a (d.length+1) c) (d++[s]))(A:Ah t d=nM p)(j:AX p=true)(M:∃O x,D= nF O x):
  Cl prog 166 #[nP (nM ⟨W,0,nN⟩),nS a (d.length+1) c,D] w (AZ 5 N w):=by
 obtain⟨b,o,rfl,r,K,L,U,V,J⟩:=i.last;obtain⟨Y,xx,rfl⟩:=M;have X:=i.lt b r
 have n:=UD (∀f,Chg w f []->Cl prog 170 #[nP (nM ⟨W,0,nN⟩),nS (nM ⟨b,o,nN⟩) d.length c] f (fun e w'=>Chg f w' []/\e= nR (nF 183 (nA #[AG p])))) fun f h=>by
  have hi:=i.init.kept h;have k:=y.kept h;have:=LI W t v _ _ C bs F _ d f (u.kept h) k.blk k.at_ k.fine hi.row hi.ok hi.small;rw[Jx A]at this;refine this.mono fun e w' ⟨g,Z,T,rest,H,I⟩=>⟨g, ?_⟩
  rw[H,(I.at_.leaf (fun l e=>by subst e;simp[AX]at j) (fun ks l e=>by subst e;simp[AX]at j)).1]
 have R:∀(w:Wl),(Instr.typeAssert (nF 183 (nA #[AG p])) 95 175 true).run prog w= .ok (nT #[nP nN,.bool false]) w:=fun _=>Yb
 have S:∀(w:Wl),(Instr.typeAssert (nF 183 (nA #[AG p])) 95 104 true).run prog w= .ok (nT #[nP nN,.bool false]) w:=fun _=>Yb
 obtain⟨m,B⟩:=Ue d.length
 rw[<-B]at n K L J|-;clear u y i A B r j;go_enter func166,ntmps166
 go_wp2_with(first
  |(go_at_call 170;refine(n.o _ (by exact ot)).mono ?_;rintro e P ⟨g,rfl⟩;have E:=UD (Chg w P []) (Chg.trans (b:=_) (by exact ot) g);clear g)
  |(go_at_call 53;refine(Bu _ _).mono ?_;rintro e Q ⟨z,q⟩;unfold By at z;subst z;have G:=UD (Chg w Q []) (Chg.trans (b:=_) (by(have:=E.o;exact oq)) q);clear q))
 exact⟨rfl,rfl,G.o.none _⟩
theorem Hu.was{w:Wl}{W:Nat}{t:Tr}{v a:Vl}{bs:List Nat}(h:Hu w W t v a bs):KT w v (Ag t).nodes (Ag t).bytes:= .inr ⟨t,bs,h.at_,h.fine.good,h.fine.fits,rfl,rfl⟩
theorem KT.kept{w w':Wl}{v:Vl}{m c:Nat}(h:KT w v m c)(e:Chg w w' []):KT w' v m c:=by
 rcases h with h|⟨u,a,b,d⟩
 .exact .inl h
 .exact .inr ⟨u,a,b.chg e Zh,d⟩
structure Sx(W:Nat)(t x:Tr)(v uv vx:Vl)(bs bx:List Nat)(F:Nat->Prop)(sl:Vl)(ts:List BY)(w:Wl):Prop where
 laid:Br w
 wat:Hu w W t v uv bs
 xat:AP w x vx bx
 xfine:Bt x
 tat:JC w F sl ts
 nodup:(W::(bx++bs)).Nodup
 big:∀b,b∈W::(bx++bs)->10<=b
 apart:∀b,b∈W::(bx++bs)->¬F b
theorem E6(s:Sz):Hi s.nodes s.bytes s.depth=s.within:=rfl
theorem Tv(W:Nat)(t x:Tr)(v C Y:Vl)(bs s:List Nat)(F:Nat->Prop)(a:Option Addr)(c:Nat)(w:Wl)(h:Sx W t x v C Y bs s F (nS a 0 c) [] w):
  Cl prog 166 #[nP (nM ⟨W,0,nN⟩),nS a 0 c,Y] w (Cq W C (W::(s++bs)) t x [] w):=by
 have y:EN t []=0:=by unfold EN;rw[Qr rfl]
 have u:At t [] x=x:=by unfold At;rw[Qr rfl]
 have aj:=h.wat.blk.lt;obtain⟨K,L,rfl⟩:=h.xat.iface;obtain⟨B,D,rfl⟩:=h.wat.at_.iface;have S:=Ar h.xfine.fits;have z:=Ar h.wat.fine.fits
 have r:=UD (∀f,Chg w f []->Cl prog 195 #[nP (nM ⟨W,0,nN⟩),nS a 0 c,nF K L,nF B D,nI nX 0] f (Dh W (nF B D) C (Ag x).nodes (Ag x).bytes (0+(Ag x).depth) f)) fun f l=>
  Jl W _ C _ _ x _ _ s _ _ (Ag x).nodes (Ag x).bytes 0 a 0 c f (h.wat.blk.kept l) (h.xat.chg l Zh) h.xfine.good h.xfine.fits (h.wat.was.kept l) z.1 z.2.1 Zj Zj Zj Zj
 have I:W∉bs:=fun n=>by have:=h.nodup;simp[n]at this
 have ab:=UD (∀f,Chg w f [W]->Cl prog 196 #[nI nX 3,nS a 0 c,nF B D] f (Et (AC 3 [] (Ai t)) f)) fun f l=>by
  have A:=h.tat.kept l (fun b d=>by simp at d;subst d;exact h.apart b Zh);exact DE 3 F _ [] t _ bs f (h.laid.kept l (fun b d=>by simp at d;subst d;exact h.big b Zh)) A.row A.lt A.ok A.small h.wat.fine (h.wat.at_.chg l (fun b d=>by simp at d;subst d;exact I))
 have c0:w.cell? ⟨W,0,nN⟩=nM (nF B D):=h.wat.blk.cell 0;have m:=hZ h;have ah:=hZ h.wat.blk;rw[Nat.zero_add]at r;by_cases o:(Ag x).within=true
 .rw[LS y (by rw[u];exact o)]
  rw[En (by rw[E6];exact o)]at r;have al:W≠w.heap.size:=Zj
  clear h y u S z o I;go_enter func166,ntmps166
  go_wp2_with(first
   |(go_at_call 195;refine(r.o _ (by exact ot)).mono ?_;rintro e p ⟨rfl,k,g⟩;have Z:=hZ k;have q:=UD (Chg w p [W]) (Chg.trans (b:=_) (by exact ot) g);have M:=UD (Ac p w.heap.size [nI nX 0,nG ⟨#[]⟩,nG ⟨#[]⟩,nS nN 0 0] 42) ((Ac.new w _ _).kept g (by simp;omega));have d0:=k.cell 0;have f0:∀j,p.frozen? ⟨W,j,nN⟩=false:=fun j=>k.frozen j;have am:=k.lt;simp only[Qa]at d0;clear k g)
   |(go_at_call 196;refine(ab.o _ (by(have:=q.o;exact oq))).mono ?_;rintro e w2 g;obtain⟨sv,ys,G,rfl,J,U⟩:=g.at;have N:=hZ J;have H:=hZ U;obtain⟨V,X,rfl,_⟩:=J.row.form;clear g J U)
   |(refine Ae rfl _ _ _ rfl w.heap.size (BJ (AC 3 [] (Ai t)) (nS V (AC 3 [] (Ai t)).steps.length X)) ZN ZN 42 [nI nX 0,nG ⟨#[]⟩,nG ⟨#[]⟩,nS nN 0 0] (by exact(M.o.set_other _ _ (by simp only;omega)).kept H.o) A0 rfl (Dx _ _ _ _) ?_;intro w6 T P R;have ai:=hZ T;have aa:=hZ P;have E:=hZ R;clear T P R))
  have ag:=q.o.size;have ae:Chg w w2 [W]:=Chg.trans (b:=_) (q.o.setCell _ _ Zh) (H.o.none _);have O:Chg w w6 [W]:=ae.step E.o (fun i hi hl=>by simp at hi;omega);have ad:W∉s:=fun n=>by have:=m.o.nodup;simp[n]at this
  have af:=AP.lt _ _ _ m.o.xat;have ak:=m.o.wat.blk.lt;have hk:=N.o.kept (w0:=w) E.o (fun b d=>by simp at d;subst d;simpa using M.o.lt) (by simpa using ag)
  refine bodyPost_ret (Bi rfl _ _ w.heap.size 42 (BJ (AC 3 [] (Ai t)) (nS V (AC 3 [] (Ai t)).steps.length X)) _ rfl aa.o underlying42 rfl A0) rfl
   ⟨nF K L,s,_,ys,G,rfl,hk,⟨?_,m.o.xat.chg O (fun b d=>by simp at d;subst d;exact ad),m.o.xfine⟩, ?_,O.mono (fun _ _ n=>by simp at n;simp[n]),fun b d hG=> ?_⟩
  .exact(((Z.o.set 0 (nF K L)).kept H.o).kept E.o (by simp;omega))
  .exact(DJ.refl m.o.nodup).sub (List.Sublist.cons_cons _ (List.sublist_append_left _ _))
  .have k:=(N.o.new b hG).1
   have g:p.heap.size<=b:=by simpa using k
   rcases Qh.1 d with rfl|d
   .omega
   .have:=af b d;omega
 .rw[Hv y (by rw[u];simpa using o)]
  rw[DO (by rw[E6];simpa using o)]at r;clear h y u S z o I;go_enter func166,ntmps166
  go_wp2_with(first
   |(go_at_call 195;refine(r.o _ (by exact ot)).mono ?_;rintro e p ⟨Q,g⟩;unfold By at Q;subst Q;have q:=UD (Chg w p []) (Chg.trans (b:=_) (by exact ot) g);clear g))
  exact⟨rfl,rfl,q.o.none _⟩
end
section
open Go Go.Shelf Go.RowKit Go.Lib Tree Ptr
theorem KC{t x u:Tr}{ts:List BY}(h:Bt t)(b:Ah t ts=nM u):Hi (Ag (AE t ts x)).nodes (Ag (AE t ts x)).bytes (ts.length+(Ag x).depth)=(Ag (AE t ts x)).within:=by
 obtain⟨c,d,a⟩:=J4 (x:=x) h b;rw[a];unfold Hi
 congr 1
 congr 1
 .rw[decide_eq_decide];omega
 .rw[decide_eq_decide];omega
theorem Oy{t x p:Tr}{ts:List BY}(h:Bt t)(g:ts≠[])(d:Ah t ts.dropLast=nM p)(e:Gg (AH ts) p=0)(f:∀ks l,p= .obj ks l->C4 ks (AH ts)=false):
  Hi (Ag (At t ts x)).nodes (Ag (At t ts x)).bytes (ts.length+(Ag x).depth)=(Ag (At t ts x)).within:=by
 obtain⟨a,b,c⟩:=MR (x:=x) h g d e f;rw[c];unfold Hi;rw[a,b]
theorem DJ.count{w:Wl}{d bs cs:List Nat}(h:DJ w d bs)(c:∀a,cs.count a<=bs.count a):DJ w d cs:=
 ⟨List.nodup_iff_count.2 fun a=>Q7 (c a) (List.nodup_iff_count.1 h.nodup a),fun b e=>h.come b (List.count_pos_iff.1 (Q6 (List.count_pos_iff.2 e) (c b)))⟩
theorem Cd{l m:List Nat}(h:(l++m).Nodup){b:Nat}(a:b∈l):b∉m:=fun c=>by
 have:=List.nodup_iff_count.1 h b;rw[List.count_append]at this;have d:=List.count_pos_iff.2 a;have e:=List.count_pos_iff.2 c;omega
theorem Chg.sameB{w w':Wl}{cs bs:List Nat}(h:Chg w w' cs)(d:∀b,b∈bs->b<w.heap.size)(c:∀b,b∈bs->b∉cs):Ca bs w w':=fun b a=>h.block b (d b a) (c b a)
theorem Uv{w h:Wl}{W g c pi:Nat}{t x:Tr}{v z uv:Vl}{bs m E rest:List Nat}{M:List BY}{s:BY}{ks:List BY}{l:List Tr}{i:Nat}{sk:Vl}{vs:List Vl}{k:List Nat}{u:Tr}(S:Hu w W t v uv bs)(K:Ir w t v bs M (.obj ks l) (IR i) E rest)(q:PS w ks l i (nS (nM ⟨g,0,nN⟩) vs.length c) sk vs k)(U:E=i::((Vl.slice (nM ⟨g,0,nN⟩) vs.length c).ownBlock.toList++(sk.ownBlock.toList++k)))(G:(W::(m++bs)).Nodup)(hx:AP w x z m)(hu:l[pi]? =nM u)(Z:C4 ks s=true)(ae:pi=A5 ks s)(n:Chg w h [W]):
  ∃A,AP (h.setCell ⟨g,pi,nN⟩ z) (Bz (Cj s x) t M) v A/\DJ h (W::(m++bs)) (W::A)/\(∃v0,h.cell? ⟨g,pi,nN⟩=nM v0)/\(∀j,h.frozen? ⟨g,j,nN⟩=false)/\g∈bs/\g∉rest:=by
 have J:=List.nodup_iff_count.1 G;have I:=K.perm;have H:=fun a=>I.count_eq a
 have aj:bs.Perm (E++rest):=I;subst U;have F:∀y,y∈m++bs->y≠W:=fun y d e=>by subst e;exact(List.nodup_cons.1 G).1 d
 have C:∀y,y∈(i::((Vl.slice (nM ⟨g,0,nN⟩) vs.length c).ownBlock.toList++(sk.ownBlock.toList++k)))++rest->y∈bs:=fun y d=>I.mem_iff.2 d
 have P:PS h ks l i (nS (nM ⟨g,0,nN⟩) vs.length c) sk vs k:=by
  have D:∀y,y∈i::((Vl.slice (nM ⟨g,0,nN⟩) vs.length c).ownBlock.toList++(sk.ownBlock.toList++k))->y∉[W]:=fun y d f=>by
   simp at f;exact F y (Qd _ (C y (Qe _ d))) f
  exact⟨q.blk.kept n (D _ Zh),q.lst.kept n (fun y d=>D y (by simp only[Qh,Qf];exact .inr (.inl (by rw[d];simp)))),q.keys.kept n (fun y d=>D y (by simp only[Qh,Qf];exact .inr (.inr (.inl (by rw[d];simp))))),q.len,
   q.at_.chg n (fun y d f=>D y (by simp only[Qh,Qf];exact .inr (.inr (.inr f))) d)⟩
 have ah:AP h x z m:=hx.chg n (fun y d f=>by simp at d;exact F y (Qe _ f) d)
 have aa:(m++(i::((Vl.slice (nM ⟨g,0,nN⟩) vs.length c).ownBlock.toList++(sk.ownBlock.toList++k)))).Nodup:=by
  rw[List.nodup_iff_count];intro a;have o:=J a;have p:=H a;simp only[List.count_cons,List.count_append]at o p|-;omega
 obtain⟨g',c',e,ag,X,bu,r,ai,ab,ad,Q⟩:=P.set hu aa ah
 injection e with e _ _
 injection e with e
 injection e with e _ _
 subst e;have Y:g∈bs:=C g (by simp[Vl.ownBlock])
 have L:g∉rest:=Cd (l:=i::((Vl.slice (nM ⟨g,0,nN⟩) vs.length c).ownBlock.toList++(sk.ownBlock.toList++k))) (by
  rw[List.nodup_iff_count];intro a;have o:=J a;have p:=H a;simp only[List.count_cons,List.count_append]at o p|-
  omega) (by simp[Vl.ownBlock])
 have R:=AP.lt _ _ _ S.at_;have V:Chg w (h.setCell ⟨g,pi,nN⟩ z) [W,g]:=(n.mono (fun _ _ f=>by simp at f;simp[f])).setCell _ _ Zh
 have af:Ca rest w (h.setCell ⟨g,pi,nN⟩ z):=V.sameB (fun b B=>R b (C b (Qd _ B))) (fun b B f=>by
  simp at f
  rcases f with rfl|rfl
  .exact F b (Qd _ (C b (Qd _ B))) rfl
  .exact L B)
 have T:Cj s x (.obj ks l)= .obj ks (l.set pi x):=by simp only[Cj];rw[Qr Z,ae]
 obtain⟨A,k1,k2⟩:=K.back (Cj s x) _ _ (by rw[T];exact Q.pat) af;refine⟨A,k1,(DJ.refl G).count (fun a=> ?_),ag,X,Y,L⟩;have o:=k2.count_eq a;have p:=H a;have N:=ab.count_eq a;have O:=ad.count_eq a;simp only[List.count_cons,List.count_append]at o p N O|-;omega
end
section
open _root_.Go.Proofs.Tryz
open Go Go.Shelf Go.RowKit Go.Lib Tree Ptr
theorem Dv.kept{w w':Wl}(a:Chg w w' []):∀{ts:List BY} {t:Tr} {v d:Vl},Dv w t v ts d->Dv w' t v ts d
 |[],_,_,_,h=>h
 |s::r,_,_,_,h=>by
  simp only[Dv]at h|-;obtain⟨i,u,b,g,n,c,p,o,e,f,j,k,l,m⟩:=h;exact⟨i,u,b,g,n,c,p,o,e,f,j,a.keeps k,a.keeps l,m.kept a⟩
theorem EU{w:Wl}{t:Tr}{v:Vl}{bs:List Nat}(h:AP w t v bs):∀(n:Nat) (ts:List BY) (u:Tr),ts.length=n->Ah t ts=nM u->∃j d rest,Ir w t v bs ts u j d rest
 |0,ts,u,b,a=>by
  have:ts=[]:=List.eq_nil_of_length_eq_zero b;subst this;simp only[Ah]at a
  injection a with a
  subst a;exact⟨v,bs,[],Ir.here h⟩
 |n+1,ts,u,b,a=>by
  have l:ts≠[]:=by intro e;subst e;simp at b
  obtain⟨c,s,rfl⟩:∃c s,ts=c++[s]:=⟨ts.dropLast,ts.getLast l,(List.dropLast_concat_getLast l).symm⟩
  rw[BW]at a
  cases g:Ah t c with
  |none=>rw[g]at a;simp at a
  |some p=>
   rw[g]at a;simp only[Option.bind_some]at a;obtain⟨r,o,rest,k⟩:=EU h n c p (by simpa using b) g;unfold Dy at a
   cases f:D6 p s with
   |none=>rw[f]at a;simp at a
   |some i=>
    rw[f]at a;simp only[Option.bind_some]at a;obtain⟨_,_,_,_,j,d,q,_,_,_,_,m⟩:=Fx k.at_ f a;exact⟨j,d,_,k.snoc m⟩
theorem Dl{W:Nat}{t u:Tr}{v f g:Vl}{bs i rest:List Nat}{F:Nat->Prop}{d:Vl}{ts:List BY}{w:Wl}(m:Br w)(o:Hu w W t v f bs)(n:JC w F d ts)(c:Ir w t v bs ts u g i rest):
  ∀a,Chg w a []->Cl prog 170 #[nP (nM ⟨W,0,nN⟩),d] a (fun e w'=>e= nR g/\Chg a w' []):=fun a h=>by
 have hi:=n.kept h;have b:=o.kept h;have:=LI W t v _ _ f bs F _ ts a (m.kept h) b.blk b.at_ b.fine hi.row hi.ok hi.small;rw[Jx c.lead]at this;refine this.mono fun e w' ⟨j,r,p,q,k,l⟩=>⟨?_,j⟩
 rw[k,(c.reach.kept h).inj l.reach]
theorem Ud{W:Nat}{t u:Tr}{v f g:Vl}{bs i rest:List Nat}{F:Nat->Prop}{d:Vl}{ts:List BY}{w:Wl}(m:Br w)(o:Hu w W t v f bs)(n:JC w F d ts)(c:Ir w t v bs ts u g i rest):
  ∀a,Chg w a []->Cl prog 201 #[nP (nM ⟨W,0,nN⟩),d] a (fun e w'=>e= nR (nT #[g,.bool true])/\Chg a w' []):=fun a h=>by
 have hi:=n.kept h;have b:=o.kept h;have:=LJ W t v _ _ f bs F _ ts a (m.kept h) b.blk b.at_ b.fine hi.row hi.ok hi.small (Q7 hi.ok.many Zj);rw[Iv c.lead]at this;refine this.mono fun e w' ⟨j,r,p,q,k,l⟩=>⟨?_,j⟩
 rw[k,(c.reach.kept h).inj l.reach]
theorem S0{w:Wl}{ks:List BY}{l:List Tr}{b:Nat}{sv sk:Vl}{vs:List Vl}{g:List Nat}{s:BY}(c:PS w ks l b sv sk vs g)(m:Cy ks)(n:Utf.Al s=true)(o:s.size<=16777216)(d:C4 ks s=true):
  ∀a,Chg w a []->Cl prog 197 #[nP (nM ⟨b,0,nN⟩),nG s] a (fun e w'=>e= nR (nT #[nI nX (A5 ks s),.bool true])/\Chg a w' []):=fun a f=>
 (Pl ks s b sv sk a (c.blk.kept f) (c.keys.kept f) m n Zj).mono fun e w' ⟨i,h,j,k,_⟩=>⟨by rw[h,d,(k.yes d).1],j⟩
theorem Rk{t:Tr}{a:List BY}{s:BY}{ks:List BY}{l:List Tr}(b:Ah t a=nM (.obj ks l)):EN t (a++[s])=0:=by rw[Iz,b];rfl
theorem AZ.of{n:Nat}{c:List Nat}{w w':Wl}{e:Ending}(b:e=By n)(a:Chg w w' []):AZ n c w e w':=⟨b,a.none _⟩
def Ef:List Vl:=[nI nX 0,nG ⟨#[]⟩,nG ⟨#[]⟩,nS nN 0 0]
theorem E3(t x:Tr)(a:List BY)(s:BY):At t (a++[s]) x=Bz (Cj s x) t a:=by
 unfold At;rw[Qs Zh,List.dropLast_concat,BE]
theorem Vk(W:Nat)(t x:Tr)(v uv vx:Vl)(bs U:List Nat)(F:Nat->Prop)(a:Option Addr)(c:Nat)(d:List BY)(s:BY)(w:Wl)(ks:List BY)(l:List Tr)(h:Sx W t x v uv vx bs U F (nS a (d.length+1) c) (d++[s]) w)(K:Ah t d=nM (.obj ks l))(Q:C4 ks s=true):
  Cl prog 166 #[nP (nM ⟨W,0,nN⟩),nS a (d.length+1) c,vx] w (Cq W uv (W::(U++bs)) t x (d++[s]) w):=by
 have X:=Rk (s:=s) K;have av:d++[s]≠[]:=Zh
 obtain⟨ao,J,P⟩:=T9 (x:=x) (ts:=d++[s]) h.wat.fine av (by rw[List.dropLast_concat];exact K) (by rw[BE];exact Q);rw[BE]at J P;obtain⟨b,o,rfl,ak,aE,ar,aX,aY,aD⟩:=h.tat.last;have lb:=h.tat.lt b ak;obtain⟨tx,xx,rfl⟩:=h.xat.iface;obtain⟨tv,xv,rfl⟩:=h.wat.at_.iface;obtain⟨vp,bp,rest,z⟩:=EU h.wat.at_ _ d _ rfl K;obtain⟨N,sv,sk,vs,fs,rfl,n,I⟩:=z.at_.obj;have ag:=(h.wat.fine.lead K).good;have ay:=Dk (Cp.1 Q);have ae:=S0 (s:=s) n ag.1 aX aY Q;obtain⟨pi,ah⟩:=Ue (A5 ks s)
 rw[<-ah]at ae ay J P;have ax:pi<l.length:=by have:=ag.2.1;omega
 obtain⟨u,Z⟩:∃u,l[pi]? =nM u:=⟨_,Q9 ax⟩
 have ap:l.getD pi .null=u:=by rw[List.getD_eq_getElem?_getD,Z];rfl
 rw[ap]at J P;obtain⟨vu,bu,aa,Y,al⟩:=n.at_.get Z;obtain⟨tu,xu,rfl⟩:=Y.iface;have aI:=n.at_.length
 obtain⟨g,c',rfl,a4⟩:∃g c',sv= nS (nM ⟨g,0,nN⟩) vs.length c'/\vs.length<=c':=by
  rcases n.lst.one with⟨_,e⟩|h
  .rw[e]at aa;simp at aa
  .exact h
 have V:=h.wat.fine.lead J;have aH:=Ar h.xfine.fits;have ai:=Ar h.wat.fine.fits;obtain⟨q1,q2,q3⟩:=J4 (x:=x) h.wat.fine J;have R:=KC (x:=x) h.wat.fine J;rw[<-ao]at q1 q2 R;have az:KT w (nF tu xu) (Ag u).nodes (Ag u).bytes:= .inr ⟨u,bu,Y,V.good,V.fits,rfl,rfl⟩;have aq:(d++[s]).length=d.length+1:=Zh
 rw[aq]at R
 have M:=UD (∀q,Chg w q []->Cl prog 195 #[nP (nM ⟨W,0,nN⟩),nS (nM ⟨b,o,nN⟩) (d.length+1) c,nF tx xx,nF tu xu,nI nX 0] q (Dh W (nF tv xv) uv (Ag (At t (d++[s]) x)).nodes (Ag (At t (d++[s]) x)).bytes (d.length+1+(Ag x).depth) q)) fun q L=>
  Jl W _ uv _ _ x _ _ U _ _ _ _ 0 _ _ c q (h.wat.blk.kept L) (h.xat.chg L Zh) h.xfine.good h.xfine.fits (az.kept L) ai.1 ai.2.1 Zj ar q1 Zj
 have T:=hZ (Dl h.laid h.wat h.tat.init z);have aA:=hZ ae
 have am:∀y,y∈bu->y≠W/\y≠g:=fun y A=>by
  have aZ:=al y A;have an:=List.nodup_iff_count.1 h.nodup y;have aw:=z.perm.count_eq y;rw[I]at aw;have r:=List.count_pos_iff.2 aZ;simp only[List.count_cons,List.count_append,Vl.ownBlock,Option.toList_some,List.count_nil]at an aw
  constructor
  .intro e;subst e;simp at an;omega
  .intro e;subst e;simp at an aw;omega
 have aj:=UD (∀q,Chg w q [W,g]->Cl prog 196 #[nI nX 3,nS (nM ⟨b,o,nN⟩) (d.length+1) c,nF tu xu] q (Et (AC 3 (d++[s]) (Ai u)) q)) fun q L=>by
  have aV:g∈bs:=z.perm.mem_iff.2 (by rw[I];simp[Vl.ownBlock])
  have aG:∀y,y∈[W,g]->y∈W::(U++bs):=fun y A=>by simp at A;rcases A with rfl|rfl;simp;simp[aV]
  have ht:=h.tat.kept L (fun y A=>h.apart y (aG y A));exact DE 3 F _ (d++[s]) u _ bu q (h.laid.kept L (fun y A=>h.big y (aG y A))) ht.row ht.lt ht.ok ht.small V (Y.chg L (fun y A f=>by simp at A;have:=am y f;omega))
 have c1:w.cell? ⟨N,0,nN⟩=nM (nS (nM ⟨g,0,nN⟩) vs.length c'):=n.blk.cell 0;have c2:w.cell? ⟨g,pi,nN⟩=nM (nF tu xu):=n.lst.cell rfl pi _ aa
 have aC:=UD (∀k,Chg w k [W]->∃ad,AP (k.setCell ⟨g,pi,nN⟩ (nF tx xx)) (Bz (Cj s x) t d) (nF tv xv) ad/\DJ k (W::(U++bs)) (W::ad)/\(∃v0,k.cell? ⟨g,pi,nN⟩=nM v0)/\(∀j,k.frozen? ⟨g,j,nN⟩=false)/\g∈bs/\g∉rest) fun k hc=>
  Uv h.wat z n I h.nodup h.xat Z Q ah hc
 have HH:=hZ h
 have aR:N≠W:=fun e=>by
  have f:N∈bs:=z.perm.mem_iff.2 (by rw[I];simp);have:=h.nodup;rw[e]at f;simp[f]at this
 have aT:g≠W:=fun e=>by
  have f:g∈bs:=z.perm.mem_iff.2 (by rw[I];simp[Vl.ownBlock]);have:=h.nodup;rw[e]at f;simp[f]at this
 have lW:=h.wat.blk.lt;have lg:=n.lst.lt (g:=g) rfl;have a1:=n.blk.lt;have a5:pi<vs.length:=Zj
 have aU:g∈bs:=z.perm.mem_iff.2 (by rw[I];simp[Vl.ownBlock]);have a0:∀(w:Wl),(Instr.typeAssert (nF 175 (nP (nM ⟨N,0,nN⟩))) 95 175 true).run prog w= .ok (nT #[nP (nM ⟨N,0,nN⟩),.bool true]) w:=fun _=>Yb
 unfold IR at T;have au:=E3 t x d s;have aL:=hZ P;have aP:=hZ au;have af:(Ag (At t (d++[s]) x)).within=true->Bt (At t (d++[s]) x):=fun D=>h.wat.fine.add h.xfine h.tat.ok X D
 have a2:=hZ af;by_cases D:(Ag (At t (d++[s]) x)).within=true
 .rw[LS X D]
  rw[En (by rw[R];exact D)]at M;have aO:=hZ (af D);obtain⟨m,f⟩:=Ue d.length
  rw[<-f]at T M aj aE ar aD|-;clear h X av ao J P z n ag ay ae ah Z ap aa Y V aH ai q1 q2 q3 R az aq f D au I al am aI ax af ak K Q;go_enter func166,ntmps166
  go_wp2_with(first
   |(go_at_call 170;refine(T.o _ (by exact cg cR)).mono ?_;rintro e w1 ⟨rfl,r⟩;have S:=UD (Chg w w1 []) (ct cR r);have B1:=UD (Ac w1 w.heap.size Ef 42) ((Ac.new w Ef 42).kept r);clear r)
   |(go_at_call 197;refine(aA.o _ (by exact cg S.o)).mono ?_;rintro e w2 ⟨rfl,H⟩;have B:=UD (Chg w w2 []) (ct S.o H);have B2:=UD (Ac w2 w.heap.size Ef 42) (B1.o.kept H);have d1:=B.o.keeps c1;have d2:=B.o.keeps c2;clear H)
   |(go_at_call 195;refine(M.o _ (by exact cg B.o)).mono ?_;rintro e k ⟨rfl,h3,O⟩;have aM:=hZ h3;have E:=UD (Chg w k [W]) (ct ((B.o.none [W])) O);have B3:=UD (Ac k w.heap.size Ef 42) (B2.o.kept O (by simp;omega));have e1:=(E.o.cell (p:=⟨N,0,nN⟩) a1 (by simpa using aR)).trans c1;obtain⟨ad,s1,s2,⟨v0,s3⟩,s4,_⟩:=aC.o k E.o;have S1:=hZ s1;have S2:=hZ s2;have a6:=Q6 lg E.o.size;clear h3 O s1 s2)
   |(go_at_call 196;refine(aj.o _ (by exact(E.o.mono (fun _ _ f=>by simp at f;simp[f])).setCell _ _ Zh)).mono ?_;rintro e w5 h5;obtain⟨sv,ys,G,rfl,k1,k2⟩:=h5.at;have K1:=hZ k1;have K2:=hZ k2;obtain⟨sa,sc,rfl,_⟩:=k1.row.form;clear h5 k1 k2)
   |(refine Ae rfl _ _ _ rfl w.heap.size (BJ (AC 3 (d++[s]) (Ai u)) (nS sa (AC 3 (d++[s]) (Ai u)).steps.length sc)) ZN ZN 42 Ef (by exact(B3.o.set_other _ _ (by simp only;omega)).kept K2.o) A0 rfl (Dx _ _ _ _) ?_;intro w6 aK aB aF;have a3:=hZ aK;have aN:=hZ aB;have ab:=hZ aF;clear aK aB aF))
  have aJ:=E.o.size;have aS:Chg w w5 [W,g]:=Chg.trans (b:=_) ((E.o.mono (fun _ _ f=>by simp at f;simp[f])).setCell _ _ Zh) (K2.o.none _);have aQ:Chg w w6 [W,g]:=aS.step ab.o (fun i hi K=>by simp at hi;omega);have hk:=K1.o.kept (w0:=w) ab.o (fun b C=>by simp at C;subst C;simpa using B3.o.lt) (by simpa using aJ);have aW:=AP.lt _ _ _ S1.o;refine bodyPost_ret (Bi rfl _ _ w.heap.size 42 (BJ (AC 3 (d++[s]) (Ai u)) (nS sa (AC 3 (d++[s]) (Ai u)).steps.length sc)) _ rfl aN.o underlying42 rfl A0) rfl ?_;rw[aL.o];refine⟨nF tv xv,ad,_,ys,G,rfl,hk,⟨?_, ?_,aO.o⟩,S2.o.back aJ,aQ.mono (fun _ _ f=> ?_),fun b C hG=> ?_⟩
  .exact(((aM.o.set_other _ _ (by simp only;exact aT)).kept K2.o).kept ab.o (by simp;omega))
  .rw[aP.o]
   exact(S1.o.chg K2.o Zh).chg ab.o (fun b C f=>by
    simp at C;subst C
    rcases S2.o.come _ (Qg _ f)with h|h
    .rcases Qh.1 h with h|h
     .omega
     .rcases Qf.1 h with h|h
      .have:=AP.lt _ _ _ HH.o.xat _ h;omega
      .have:=AP.lt _ _ _ HH.o.wat.at_ _ h;omega
    .have:=B3.o.lt;omega)
  .simp at f
   rcases f with rfl|rfl
   .simp
   .simp[aU]
  .have r:=(K1.o.new b hG).1
   have H:k.heap.size<=b:=by simpa using r
   rcases Qh.1 C with rfl|C
   .omega
   .have:=aW b C;simp at this;omega
 .rw[Hv X (by simpa using D)]
  rw[DO (by rw[R];simpa using D)]at M;obtain⟨m,f⟩:=Ue d.length
  rw[<-f]at T M aE ar aD|-;clear h X av ao J P z n ag ay ae ah Z ap aa Y V aH ai q1 q2 q3 R az aq f D au I al am aI ax af ak K Q aj aC;go_enter func166,ntmps166
  go_wp2_with(first
   |(go_at_call 170;refine(T.o _ (by exact cg cR)).mono ?_;rintro e w1 ⟨rfl,r⟩;have S:=UD (Chg w w1 []) (ct cR r);have B1:=UD (Ac w1 w.heap.size Ef 42) ((Ac.new w Ef 42).kept r);clear r)
   |(go_at_call 197;refine(aA.o _ (by exact cg S.o)).mono ?_;rintro e w2 ⟨rfl,H⟩;have B:=UD (Chg w w2 []) (ct S.o H);have B2:=UD (Ac w2 w.heap.size Ef 42) (B1.o.kept H);have d1:=B.o.keeps c1;have d2:=B.o.keeps c2;clear H)
   |(go_at_call 195;refine(M.o _ (by exact cg B.o)).mono ?_;rintro e k ⟨he,O⟩;unfold By at he;subst he;have E:=UD (Chg w k []) (ct B.o O);clear O))
  exact⟨rfl,rfl,E.o.none _⟩
end
section
open Go Go.Shelf Go.RowKit Go.Lib Tree Ptr
theorem Xy{s:BY}{l:List Tr}{i:Nat}(h:Em s l.length=nM i)(x:Tr):Gg s (.list l)=0/\i<=l.length/\Cj s x (.list l)= .list (l.insertIdx i x)/\Eo s (.list l)=⟨(Go.Lib.decDigits i).toArray⟩:=by
 unfold Em at h;by_cases a:s=IN
 .rw[Qr a]at h
  injection h with h
  subst h;refine⟨by simp only[Gg];rw[Qr a],Q8 _, ?_,by simp only[Eo];rw[Qr a]⟩;simp only[Cj];rw[Qr a,AQ l l.length (Q8 _)];simp
 .rw[Qs a]at h
  have c:=Jf h;obtain⟨b,_⟩:=GN.1 h;refine⟨?_,Zj,by simp only[Cj];rw[Qs a,h],by simp only[Eo];rw[Qs a];exact DK b⟩;have d:D5 s.data.toList=nM i:=by rw[b];exact JU i
  simp only[Gg];rw[Qs a,d];simp only;rw[Qr c]
theorem Vn{s:BY}{l:List Tr}(h:Em s l.length=nN):Gg s (.list l)=ND s/\ND s≠0:=by
 unfold Em at h;by_cases a:s=IN
 .rw[Qr a]at h;cases h
 .rw[Qs a]at h
  unfold bL at h;simp only[Gg,ND];rw[Qs a]
  cases c:D5 s.data.toList with
  |none=>simp
  |some k=>
   rw[c]at h;simp only at h;split at h
   .cases h
   .rename_i b
    simp only[Option.isSome_some,if_true];rw[Qs b];simp
def Wc(w h b:Wl)(W a g d n:Nat)(f:Tr)(v sv:Vl)(e:List Nat):Prop:=
 ∃c,AP (b.setCell ⟨a,0,nN⟩ (nS (nM ⟨g,0,nN⟩) n d)) f v c/\DJ h e (W::c)/\Ac b a [sv] 107/\Chg w b (W::sv.ownBlock.toList)/\Chg w (b.setCell ⟨a,0,nN⟩ (nS (nM ⟨g,0,nN⟩) n d)) (W::a::sv.ownBlock.toList)/\
  (∀y,y∈W::a::sv.ownBlock.toList->y∈e)/\W≠a/\W∉sv.ownBlock.toList
theorem Yt{w D K f:Wl}{W g o i n:Nat}{t x:Tr}{v J uv sv:Vl}{bs j L rest:List Nat}{aa:List BY}{s:BY}{l:List Tr}{d:Nat}{vs:List Vl}{k:List Nat}(N:Hu w W t v uv bs)(T:Ir w t v bs aa (.list l) (Jn d) L rest)(M:Sy w l d sv vs k)(af:L=d::(sv.ownBlock.toList++k))(A:(W::(j++bs)).Nodup)(Z:AP w x J j)(hi:i<=l.length)(ae:Cj s x (.list l)= .list (l.insertIdx i x))(Q:Chg w D [W])(S:Chg D K [])(ad:AK f (nS (nM ⟨g,0,nN⟩) n o) 95 (vs.insertIdx i J))(R:Chg K f sv.ownBlock.toList)(U:sv.ownBlock=nM g\/K.heap.size<=g):
  Wc w D f W d g o n (Bz (Cj s x) t aa) v sv (W::(j++bs)):=by
 have ag:=List.nodup_iff_count.1 A;have Y:=T.perm;subst af;have H:=fun a=>Y.count_eq a
 have hz:=Q.size;have au:=S.size;have ar:=R.size;have u:=AP.lt _ _ _ N.at_;have aj:=AP.lt _ _ _ Z;have aq:=N.blk.lt;have m:∀y,y∈(d::(sv.ownBlock.toList++k))++rest->y∈bs:=fun y c=>Y.mem_iff.2 c
 have q:∀y,y∈j++bs->y≠W:=fun y c e=>by subst e;exact(List.nodup_cons.1 A).1 c
 have r:d∈bs:=m d Zh;have I:∀y,y∈sv.ownBlock.toList->y∈bs:=fun y c=>m y (by simp only[Qh,Qf];exact .inl (.inr (.inl c)))
 have C:((d::(sv.ownBlock.toList++k))++rest).Nodup:=by
  rw[List.nodup_iff_count];intro a;have z:=ag a;have p:=H a;simp only[List.count_cons,List.count_append]at z p|-;omega
 have F:d∉sv.ownBlock.toList++k:=(List.nodup_cons.1 (List.nodup_append.1 C).1).1;have P:∀y,y∈j->y∉bs:=fun y c b=>Cd (List.nodup_cons.1 A).2 c b
 have ai:∀y,y∈k->y∉sv.ownBlock.toList:=fun y c b=>Cd (List.nodup_cons.1 (List.nodup_append.1 C).1).2 b c
 have G:Chg w f (W::sv.ownBlock.toList):=((Q.mono (fun _ _ b=>by simp at b;simp[b])).trans (S.none _)).trans (R.mono (fun _ _ b=>Qg _ b))
 have O:Ac f d [sv] 107:=M.blk.kept G (fun b=>by
  rcases Qh.1 b with h|h
  .exact q d (Qd _ r) h
  .exact F (Qe _ h))
 have B:Chg w (f.setCell ⟨d,0,nN⟩ (nS (nM ⟨g,0,nN⟩) n o)) (W::d::sv.ownBlock.toList):=(G.mono (fun _ _ b=>by simp only[Qh]at b|-;rcases b with h|h;exact .inl h;exact .inr (.inr h))).setCell _ _ Zh
 have ap:g≠d:=by
  rcases U with h|h
  .intro e;subst e;exact F (Qe _ (by rw[h];simp))
  .have:=u d r;omega
 have ah:Ca k w (f.setCell ⟨d,0,nN⟩ (nS (nM ⟨g,0,nN⟩) n o)):=B.sameB (fun y c=>u y (m y (by simp only[Qh,Qf];exact .inl (.inr (.inr c))))) (fun y c b=>by
  simp only[Qh]at b
  rcases b with h|h|h
  .exact q y (Qd _ (m y (by simp only[Qh,Qf];exact .inl (.inr (.inr c))))) h
  .subst h;exact F (Qd _ c)
  .exact ai y c h)
 have an:AP (f.setCell ⟨d,0,nN⟩ (nS (nM ⟨g,0,nN⟩) n o)) x J j:=Z.chg B (fun y c b=>by
  simp only[Qh]at c
  rcases c with h|h|h
  .exact q y (Qe _ b) h
  .subst h;exact P _ b r
  .exact P y b (I y h))
 obtain⟨ao,hO,al⟩:=M.insert (i:=i) hi an (O.set 0 _) (ad.kept ((Chg.refl f [d]).setCell ⟨d,0,nN⟩ _ Zh) (fun y c b=>by simp[Vl.ownBlock]at c b;omega)) ah
 have am:Ca rest w (f.setCell ⟨d,0,nN⟩ (nS (nM ⟨g,0,nN⟩) n o)):=B.sameB (fun y c=>u y (m y (Qd _ c))) (fun y c b=>by
  simp only[Qh]at b
  rcases b with h|h|h
  .exact q y (Qd _ (m y (Qd _ c))) h
  .subst h;exact Cd C Zh c
  .exact Cd C (by simp only[Qh,Qf];exact .inr (.inl h)) c)
 obtain⟨ab,k1,k2⟩:=T.back (Cj s x) _ _ (by rw[ae];exact hO.pat) am;have V:=fun a=>k2.count_eq a
 have X:=fun a=>al.count_eq a
 refine⟨ab,k1, ?_,O,G,B,fun y c=> ?_,fun e=>q d (Qd _ r) e.symm,fun b=>q W (Qd _ (I W b)) rfl⟩
 .rcases U with h|h
  .refine(DJ.refl A).count (fun a=> ?_)
   have z:=V a;have p:=H a;have E:=X a;rw[h]at p;simp only[Vl.ownBlock,Option.toList_some,List.count_cons,List.count_append,List.count_nil]at z p E|-;omega
  .have ho:DJ D (W::(j++bs)) (W::(d::(j++(k++rest)))):=(DJ.refl A).count (fun a=>by
    have p:=H a;simp only[List.count_cons,List.count_append]at p|-
    omega)
   have ak:g∉W::(d::(j++(k++rest))):=fun b=>by
    have:g<w.heap.size:=by
     simp only[Qh,Qf]at b
     rcases b with h|h|h|h|h
     .omega
     .have:=u d r;omega
     .exact aj g h
     .exact u g (m g (by simp only[Qh,Qf];exact .inl (.inr (.inr h))))
     .exact u g (m g (Qd _ h))
    omega
   refine(ho.cons Zj ak).count (fun a=> ?_);have z:=V a;have E:=X a;simp only[Vl.ownBlock,Option.toList_some,List.count_cons,List.count_append,List.count_nil]at z E|-;omega
 .simp only[Qh,Qf]at c|-
  rcases c with h|h|h
  .exact .inl h
  .subst h;exact .inr (.inr r)
  .exact .inr (.inr (I y h))
end
section
open _root_.Go.Proofs.Tryz
open Go Go.Shelf Go.RowKit Go.Lib Tree Ptr
theorem Vc{t:Tr}{a:List BY}{s:BY}{l:List Tr}(b:Ah t a=nM (.list l)):EN t (a++[s])=Gg s (.list l):=by rw[Iz,b]
theorem PY{t:Tr}{a:List BY}{s:BY}{l:List Tr}(b:Ah t a=nM (.list l)):(Dd t (a++[s])).toI=AC 2 (a++[Eo s (.list l)]) []:=by
 unfold Dd;rw[Qs Zh,List.dropLast_concat,BE,b];rfl
theorem O1(i:Nat)(h:i<10^20):(⟨(Go.Lib.decDigits i).toArray⟩:BY).size<=20:=by
 have:=IX 20 i h;simp only[ByteArray.size,List.size_toArray];omega
theorem VW{w:Wl}{F:Nat->Prop}{g:Vl}{b:List BY}{s:BY}{l:List Tr}{i:Nat}(d:JC w F g (b++[s]))(e:Bt (.list l))(f:Eo s (.list l)=⟨(Go.Lib.decDigits i).toArray⟩)(hi:i<=65536):
  DR (b++[⟨(Go.Lib.decDigits i).toArray⟩])/\∀x∈b++[⟨(Go.Lib.decDigits i).toArray⟩],x.size<=16777216:=by
 have c:=d.ok.spot Zh e;rw[List.dropLast_concat,BE,f]at c;refine⟨c,fun x a=> ?_⟩
 rcases Qf.1 a with a|a
 .exact d.small x (Qe _ a)
 .simp at a;subst a
  have:=O1 i Zj;omega
theorem Tt(W:Nat)(t x:Tr)(v uv vx:Vl)(bs Z:List Nat)(F:Nat->Prop)(a:Option Addr)(c:Nat)(d:List BY)(s:BY)(w:Wl)(l:List Tr)(h:Sx W t x v uv vx bs Z F (nS a (d.length+1) c) (d++[s]) w)(N:Ah t d=nM (.list l)):
  Cl prog 166 #[nP (nM ⟨W,0,nN⟩),nS a (d.length+1) c,vx] w (Cq W uv (W::(Z++bs)) t x (d++[s]) w):=by
 have am:=Vc (s:=s) N;have ao:d++[s]≠[]:=Zh
 have aj:Ah t (d++[s]).dropLast=nM (.list l):=by rw[List.dropLast_concat];exact N
 obtain⟨b,o,rfl,aw,aI,ay,bh,bd,aH⟩:=h.tat.last;have lb:=h.tat.lt b aw;obtain⟨tx,xx,rfl⟩:=h.xat.iface;obtain⟨tv,xv,rfl⟩:=h.wat.at_.iface;obtain⟨vp,bp,rest,M⟩:=EU h.wat.at_ _ d _ rfl N;obtain⟨r,sv,vs,fs,rfl,J,ab⟩:=M.at_.list;have ak:=h.wat.fine.lead N;have aL:l.length<=65536:=by have:=ak.many;simp only[Ab]at this;omega
 have aC:=J.at_.length;have aN:=Ar h.xfine.fits;have aq:=Ar h.wat.fine.fits;have Y:=hZ (Dl h.laid h.wat h.tat.init M);unfold Jn at Y
 have ah:∀f,Chg w f []->Cl prog 200 #[nG s,nI nX vs.length] f (Dn s l.length f):=fun f K=>by
  rw[aC];exact YI s l.length f (h.laid.kept K) bd Zj
 have a0:∀(w:Wl),(Instr.typeAssert (nF 104 (nP (nM ⟨r,0,nN⟩))) 95 175 true).run prog w= .ok (nT #[nP nN,.bool false]) w:=fun _=>Yb
 have a1:∀(w:Wl),(Instr.typeAssert (nF 104 (nP (nM ⟨r,0,nN⟩))) 95 104 true).run prog w= .ok (nT #[nP (nM ⟨r,0,nN⟩),.bool true]) w:=fun _=>Yb
 obtain⟨A,B,rfl,_⟩:=J.lst.form;have c1:w.cell? ⟨r,0,nN⟩=nM (nS A vs.length B):=J.blk.cell 0;have lW:=h.wat.blk.lt;have aZ:=J.blk.lt
 have a8:r≠W:=fun e=>by
  have n:r∈bs:=M.perm.mem_iff.2 (by rw[ab];simp);have:=h.nodup;rw[e]at n;simp[n]at this
 cases ad:Em s l.length with
 |none=>
  obtain⟨T,m2⟩:=Vn (l:=l) ad;rw[LG (am.trans T) m2];have ae:=hZ ah;rw[RM ad]at ae;obtain⟨m,n⟩:=Ue d.length
  rw[<-n]at Y aI ay aH|-;clear h am ao aj M J ab ak aL aC aN aq ah ad T m2 n N aw;go_enter func166,ntmps166
  go_wp2_with(first
   |(go_at_call 170;refine(Y.o _ (by exact cg cR)).mono ?_;rintro e U ⟨rfl,u⟩;have D:=UD (Chg w U []) (ct cR u);have d1:=D.o.keeps c1;clear u)
   |(go_at_call 200;refine(ae.o _ (by exact cg D.o)).mono ?_;rintro e w2 ⟨z,he⟩;unfold By at he;subst he;have V:=UD (Chg w w2 []) (ct D.o z);clear z))
  exact⟨rfl,rfl,V.o.none _⟩
 |some i=>
  obtain⟨T,m2,m3,m4⟩:=Xy ad x;have ae:=hZ ah;rw[RN ad]at ae;have an:=am.trans T;have az:∀ks l',Tr.list l= .obj ks l'->C4 ks (AH (d++[s]))=false:=fun _ _ e=>by cases e
  obtain⟨q1,q2,q3⟩:=MR (x:=x) h.wat.fine ao aj (by rw[BE];exact T) az;have ap:=Oy (x:=x) h.wat.fine ao aj (by rw[BE];exact T) az;have aK:(d++[s]).length=d.length+1:=Zh
  rw[aK]at ap;unfold NC at q2
  have af:=UD (∀f,Chg w f []->Cl prog 195 #[nP (nM ⟨W,0,nN⟩),nS (nM ⟨b,o,nN⟩) (d.length+1) c,nF tx xx,.nilIface,nI nX 0] f (Dh W (nF tv xv) uv (Ag (At t (d++[s]) x)).nodes (Ag (At t (d++[s]) x)).bytes (d.length+1+(Ag x).depth) f)) fun f K=>
   Jl W _ uv _ _ x _ _ Z 0 0 _ _ 0 _ _ c f (h.wat.blk.kept K) (h.xat.chg K Zh) h.xfine.good h.xfine.fits (.inl ⟨rfl,rfl,rfl⟩) aq.1 aq.2.1 Zj ay Zj Zj
  have ai:=PY (s:=s) N;rw[m4]at ai;obtain⟨aA,aB⟩:=VW h.tat ak m4 Zj;obtain⟨E,ax⟩:=Ue (⟨(Go.Lib.decDigits i).toArray⟩:BY)
  rw[<-ax]at ai aA aB;have ar:∀y,y∈(Vl.slice A vs.length B).ownBlock.toList->y∈bs:=fun y k=>M.perm.mem_iff.2 (by rw[ab];simp only[Qh,Qf];exact .inl (.inr (.inl k)))
  have aM:=AP.lt _ _ _ h.wat.at_;have aS:=UD (∀y,y∈(Vl.slice A vs.length B).ownBlock.toList->y<w.heap.size) fun y k=>aM y (ar y k)
  have aG:∀y,y∈(Vl.slice A vs.length B).ownBlock.toList->y≠W:=fun y k e=>by
   have:=ar y k;subst e;have hn:=h.nodup;simp[this]at hn
  have aP:=UD (∀q,Chg w q [W]->Cl prog 199 #[nS A vs.length B,nI nX i,nS (nM ⟨q.heap.size,0,nN⟩) 1 1] (q.alloc (nC #[nF tx xx] 95)) (E1 (q.alloc (nC #[nF tx xx] 95)) (nS A vs.length B) 95 vs.length (vs.insertIdx i (nF tx xx)))) fun q hc=>
   N5 _ (nF tx xx) q.heap.size i vs _ ((J.lst.kept hc (fun y k n=>by simp at n;exact aG y (by rw[k];simp) n)).kept (bs:=[]) ((Chg.refl q []).alloc _) Zh) (Ac.new q _ _) (fun y k e=>by have:=aS.o y (by rw[k];simp);have:=hc.size;omega) rfl J.at_.one Zj Zj
  have aR:=UD (∀q wI R g aa,Chg w q [W]->Chg q wI []->AK R (nS (nM ⟨g,0,nN⟩) (vs.length+1) aa) 95 (vs.insertIdx i (nF tx xx))->Chg wI R (Vl.slice A vs.length B).ownBlock.toList->((Vl.slice A vs.length B).ownBlock=nM g\/wI.heap.size<=g)->Wc w q R W r g aa (vs.length+1) (Bz (Cj s x) t d) (nF tv xv) (nS A vs.length B) (W::(Z++bs))) fun q wI R g aa H C I k4 k5=>
   Yt h.wat M J ab h.nodup h.xat m2 m3 H C I k4 k5
  have al:∀y,y∈W::r::(Vl.slice A vs.length B).ownBlock.toList->y∈W::(Z++bs):=fun y k=>by
   rcases Qh.1 k with rfl|k
   .simp
   .rcases Qh.1 k with rfl|k
    .have:y∈bs:=M.perm.mem_iff.2 (by rw[ab];simp)
     simp[this]
    .simp[ar y k]
  have aD:=UD (∀f,Chg w f (W::r::(Vl.slice A vs.length B).ownBlock.toList)->Cl prog 42 #[nS (nM ⟨b,o,nN⟩) d.length c] f (fun e w'=>∃P Q,e= nR (nS P d.length Q)/\AK w' (nS P d.length Q) 9 (Ad d)/\(∀g,(Vl.slice P d.length Q).ownBlock=nM g->f.heap.size<=g)/\Chg f w' [])) fun f K=>by
   have ht:=h.tat.init.kept K (fun y k=>h.apart y (al y k));refine(DL F _ _ f ht.row (Gu d) (by rw[Ao];omega)).mono ?_;rintro e U ⟨sk,rfl,u,z,h3⟩;obtain⟨P,Q,rfl,_⟩:=u.form;rw[Ao]at u z|-;exact⟨P,Q,rfl,u,z,h3⟩
  have aQ:=UD (∀f,Chg w f (W::r::(Vl.slice A vs.length B).ownBlock.toList)->Cl prog 70 #[nI nX i] f (fun e w'=>e= nR (nG E)/\Chg f w' [])) fun f K=>by
   have:=Ri (i:Int) Zj Zj f (h.laid.kept K (fun y k=>h.big y (al y k)));rw[Mc,<-ax]at this;exact this
  have aE:=UD (∀f S ag,Chg w f (W::r::(Vl.slice A vs.length B).ownBlock.toList)->AK f (nS (nM ⟨S,0,nN⟩) (d.length+1) ag) 9 (Ad d++[nG E])->Cl prog 196 #[nI nX 2,nS (nM ⟨S,0,nN⟩) (d.length+1) ag,.nilIface] f (Et (AC 2 (d++[E]) []) f)) fun f S ag K h9=>by
   have bc:Ad (d++[E])=Ad d++[nG E]:=by simp[Ad]
   rw[<-bc]at h9;exact ME 2 (fun y=>(Vl.slice (nM ⟨S,0,nN⟩) (d.length+1) ag).ownBlock=nM y) _ (d++[E]) f (h.laid.kept K (fun y k=>h.big y (al y k))) h9.toRow (fun y k=>h9.lt k) aA aB
  have av:=UD ((Ad d).length=d.length) (Ao d);have aJ:(Ag (At t (d++[s]) x)).within=true->Bt (At t (d++[s]) x):=fun O=>h.wat.fine.add h.xfine h.tat.ok an O
  have a6:=hZ (E3 t x d s);have a2:=hZ ai;have HH:=hZ h;by_cases O:(Ag (At t (d++[s]) x)).within=true
  .rw[LS an O]
   rw[En (by rw[ap];exact O)]at af;have a5:=hZ (aJ O);obtain⟨m,n⟩:=Ue d.length
   rw[<-n]at Y af aE aD av aI ay aH|-;clear h am ao aj M J ab ak aL aC aN aq ah ad T m2 m3 m4 n N aw az q1 q2 q3 ap aK ai aA aB ax ar aM aG al aJ O an;go_enter func166,ntmps166
   go_wp2_with(first
   |(go_at_call 170;refine(Y.o _ (by exact cg cR)).mono ?_;rintro e U ⟨rfl,u⟩;have D:=UD (Chg w U []) (ct cR u);have B1:=UD (Ac U w.heap.size Ef 42) ((Ac.new w Ef 42).kept u);have d1:=D.o.keeps c1;clear u)
   |(go_at_call 200;refine(ae.o _ (by exact cg D.o)).mono ?_;rintro e w2 ⟨z,rfl⟩;have V:=UD (Chg w w2 []) (ct D.o z);have B2:=UD (Ac w2 w.heap.size Ef 42) (B1.o.kept z);clear z)
   |(go_at_call 195;refine(af.o _ (by exact cg V.o)).mono ?_;rintro e q ⟨rfl,h3,h4⟩;have a4:=hZ h3;have X:=UD (Chg w q [W]) (ct ((V.o.none [W])) h4);have B3:=UD (Ac q w.heap.size Ef 42) (B2.o.kept h4 (by simp;omega));have e1:=(X.o.cell (p:=⟨r,0,nN⟩) aZ (by simpa using a8)).trans c1;have bk:=Q6 aZ X.o.size;clear h3 h4)
   |(go_at_call 199;refine(aP.o q X.o).mono ?_;rintro e R ⟨g,aa,rfl,H,C,I⟩;obtain⟨aT,s1,s2,s3,s4,s5,s6,s7,s8⟩:=aR.o q (q.alloc (nC #[nF tx xx] 95)) R g aa X.o (by exact cg cR) H C I;have S1:=hZ s1;have S2:=hZ s2;have S3:=hZ s3;have S4:=hZ s4;have S5:=hZ s5;have S6:=hZ s6;have S7:=hZ s7;have S8:=hZ s8;have e2:=s3.cell 0;have f2:∀j,R.frozen? ⟨r,j,nN⟩=false:=fun j=>s3.frozen j;have bl:=s3.lt;simp only[Qa]at e2;have B5:=UD (Ac (R.setCell ⟨r,0,nN⟩ (nS (nM ⟨g,0,nN⟩) (vs.length+1) aa)) w.heap.size Ef 42) (((B3.o.alloc _).kept C (fun n=>by have:=aS.o _ n;omega)).set_other _ _ (by simp only;omega));have C5:=hZ C;clear H C I s1 s2 s3 s4 s5 s6 s7 s8)
   |(go_at_call 42;refine(aD.o _ (by exact S5.o)).mono ?_;rintro e w7 ⟨P,Q,rfl,H,C,I⟩;have L7:=hZ H;have N7:=hZ C;have H7:=hZ I;clear H C I)
   |(go_at_call 70;refine(aQ.o _ (by exact(S5.o.trans (H7.o.none _)))).mono ?_;rintro e w8 ⟨rfl,I⟩;have H8:=hZ (H7.o.trans I);have L8:=hZ (L7.o.kept I);clear I)
   |(refine AM rfl _ _ _ rfl 9 Ho 16 underlying27 Cf rfl (nS P m Q) (Ad d) ZN (by exact L8.o.kept (bs:=[]) (by exact cg cR) Zh) w8.heap.size (nG E) ZN (by exact Bx rfl _ _) rfl (by rw[av.o];omega) (by rw[av.o];omega) ?_;rw[av.o];intro S ag w9 aX aV aW;have L9:=hZ aX;have C9:=UD (Chg w8 w9 (Vl.slice P m Q).ownBlock.toList) ((((Chg.refl w8 []).alloc _).none _).trans aV);have G9:=UD ((Vl.slice P m Q).ownBlock=nM S\/w8.heap.size<=S) (aW.imp id (fun h=>by rw[World.size_alloc]at h;omega));have H9:=UD (Chg (R.setCell ⟨r,0,nN⟩ (nS (nM ⟨g,0,nN⟩) (vs.length+1) aa)) w9 []) (H8.o.fresh C9.o (fun y k=>N7.o y (by simpa using k)));clear aX aV aW)
   |(go_at_call 196;refine(aE.o w9 S ag (by exact S5.o.trans (H9.o.none _)) L9.o).mono ?_;rintro e bf h5;obtain⟨bm,ys,G,rfl,H,C⟩:=h5.at;have K1:=hZ H;have K2:=hZ C;obtain⟨sa,sc,rfl,_⟩:=H.row.form;clear h5 H C)
   |(refine Ae rfl _ _ _ rfl w.heap.size (BJ (AC 2 (d++[E]) []) (nS sa (AC 2 (d++[E]) []).steps.length sc)) ZN ZN 42 Ef (by exact B5.o.kept (H9.o.trans K2.o)) A0 rfl (Dx _ _ _ _) ?_;intro bg aO aU aY;have a3:=hZ aU;have au:=hZ aY;clear aO aU aY))
   have be:=X.o.size;have aF:=H9.o.trans K2.o;have aO:w.heap.size<w9.heap.size:=by have:=(B5.o.kept H9.o).lt;exact this
   have a9:Chg w bf (W::(Z++bs)):=(S5.o.mono (fun y _ n=>S6.o y n)).trans (aF.none _);have a7:Chg w bg (W::(Z++bs)):=a9.step au.o (fun i hi N=>by simp at hi;omega);have hk:=K1.o.kept (w0:=w) au.o (fun b L=>by simp at L;subst L;exact aO) Zj;have ba:=AP.lt _ _ _ S1.o;have bi:=H9.o.size;refine bodyPost_ret (Bi rfl _ _ w.heap.size 42 (BJ (AC 2 (d++[E]) []) (nS sa (AC 2 (d++[E]) []).steps.length sc)) _ rfl a3.o underlying42 rfl A0) rfl ?_;rw[a2.o]
   have bb:w.heap.size∉aT:=fun n=>by
    rcases S2.o.come _ (Qg _ n)with h|h
    .rcases Qh.1 h with h|h
     .omega
     .rcases Qf.1 h with h|h
      .have:=AP.lt _ _ _ HH.o.xat _ h;omega
      .have:=AP.lt _ _ _ HH.o.wat.at_ _ h;omega
    .have:=B3.o.lt;omega
   have bj:W<w9.heap.size:=Zj
   refine⟨nF tv xv,aT,_,ys,G,rfl,hk,⟨?_, ?_,a5.o⟩,S2.o.back be,a7,fun b L hG=> ?_⟩
   .exact(((((a4.o.alloc _).kept C5.o S8.o).set_other _ _ (by simp only;exact fun e=>S7.o e.symm)).kept aF).kept au.o (by simp;omega))
   .rw[a6.o]
    exact(S1.o.chg aF Zh).chg au.o (fun b L n=>by simp at L;subst L;exact bb n)
   .have u:=(K1.o.new b hG).1
    rcases Qh.1 L with rfl|L
    .omega
    .have:=ba b L;omega
  .rw[Hv an (by simpa using O)]
   rw[DO (by rw[ap];simpa using O)]at af;obtain⟨m,n⟩:=Ue d.length
   rw[<-n]at Y af aI ay aH|-;clear h am ao aj M J ab ak aL aC aN aq ah ad T m2 m3 m4 n N aw az q1 q2 q3 ap aK ai aA aB ax ar aM aG al aJ O an aP aR aE aD aQ;go_enter func166,ntmps166
   go_wp2_with(first
   |(go_at_call 170;refine(Y.o _ (by exact cg cR)).mono ?_;rintro e U ⟨rfl,u⟩;have D:=UD (Chg w U []) (ct cR u);have B1:=UD (Ac U w.heap.size Ef 42) ((Ac.new w Ef 42).kept u);have d1:=D.o.keeps c1;clear u)
   |(go_at_call 200;refine(ae.o _ (by exact cg D.o)).mono ?_;rintro e w2 ⟨z,rfl⟩;have V:=UD (Chg w w2 []) (ct D.o z);have B2:=UD (Ac w2 w.heap.size Ef 42) (B1.o.kept z);clear z)
   |(go_at_call 195;refine(af.o _ (by exact cg V.o)).mono ?_;rintro e q ⟨he,h4⟩;unfold By at he;subst he;have X:=UD (Chg w q []) (ct V.o h4);clear h4))
   exact⟨rfl,rfl,X.o.none _⟩
end
section
open Go Go.Shelf Go.RowKit Go.Lib Tree Ptr
def Ee(a i:Nat)(s:BY)(b sv sk:Vl)(j:Nat)(v:Vl):Prop:=
 match j with
 |0=>v= nP (nM ⟨a,0,nN⟩)
 |1=>v= nP (nM ⟨a,0,nN⟩)
 |2=>v= nP (nM ⟨a,0,nN⟩)
 |3=>v= nP (nM ⟨a,0,nN⟩)
 |10=>v= nP (nM ⟨a,0,nN⟩)
 |11=>v= nP (nM ⟨a,0,nN⟩)
 |12=>v= nP (nM ⟨a,0,nN⟩)
 |13=>v= nP (nM ⟨a,0,nN⟩)
 |19=>v= nP (nM ⟨a,0,nN⟩)
 |22=>v= nP (nM ⟨a,0,nN⟩)
 |23=>v= nP (nM ⟨a,0,nN⟩)
 |24=>v= nP (nM ⟨a,0,nN⟩)
 |4=>v= nP (nM ⟨a,1,nN⟩)
 |20=>v= nP (nM ⟨a,1,nN⟩)
 |5=>v=sk
 |14=>v=sv
 |6=>v= nI nX i
 |15=>v= nI nX i
 |7=>v= nG s
 |16=>v=b
 |_=>True
structure Lo(w0:Wl)(b' i:Nat)(s:BY)(vx sv sk:Vl)(ks:List BY)(vs:List Vl)(d:Nat->Bool)(f:Nat->Vl)(w:Wl):Prop where
 chg:Chg w0 w (b'::(sk.ownBlock.toList++sv.ownBlock.toList))
 vals:∀j,d j=true->Ee b' i s vx sv sk j (f j)
 o9:d 9=true->d 5=true
 o18:d 18=true->d 9=true/\d 14=true
 o21:d 21=true->d 18=true
 o25:d 25=true->d 21=true
 blk0:d 21=false->Ac w b' [sv,sk] 177
 blk1:d 21=true->d 25=false->Ac w b' [sv,f 9] 177
 blk2:d 25=true->Ac w b' [f 18,f 9] 177
 keys0:d 9=false->AK w sk 9 (Ad ks)
 items0:d 18=false->AK w sv 95 vs
 r8:d 8=true->d 9=false->∃B,f 8= nS (nM ⟨B,0,nN⟩) 1 1/\Ac w B [nG s] 9/\w0.heap.size<=B
 r17:d 17=true->d 18=false->∃B,f 17= nS (nM ⟨B,0,nN⟩) 1 1/\Ac w B [vx] 95/\w0.heap.size<=B
 r9:d 9=true->∃g cap,f 9= nS (nM ⟨g,0,nN⟩) (ks.length+1) cap/\AK w (nS (nM ⟨g,0,nN⟩) (ks.length+1) cap) 9 (Ad (ks.insertIdx i s))/\(sk.ownBlock=nM g\/w0.heap.size<=g)
 r18:d 18=true->∃g cap,f 18= nS (nM ⟨g,0,nN⟩) (vs.length+1) cap/\AK w (nS (nM ⟨g,0,nN⟩) (vs.length+1) cap) 95 (vs.insertIdx i vx)/\(sv.ownBlock=nM g\/w0.heap.size<=g)/\(f 9).ownBlock≠nM g
structure Nh(w0:Wl)(b':Nat)(sv sk:Vl):Prop where
 lb:b'<w0.heap.size
 lk:∀g,sk.ownBlock=nM g->g<w0.heap.size/\g≠b'/\sv.ownBlock≠nM g
 lv:∀g,sv.ownBlock=nM g->g<w0.heap.size/\g≠b'
section
variable {w0:Wl} {b' i:Nat} {s:BY} {vx sv sk:Vl} {ks:List BY} {vs:List Vl} {d:Nat->Bool} {f:Nat->Vl} {w w':Wl}
theorem Lo.vals'{j:Nat}{v:Vl}(h:Lo w0 b' i s vx sv sk ks vs d f w)(b:Ee b' i s vx sv sk j v):∀k,BA d j k=true->Ee b' i s vx sv sk k (Eb f j v k):=fun k a=>by
 by_cases e:k=j
 .subst e;rw[Bf];exact b
 .rw[AA f v e];rw[An d e]at a;exact h.vals k a
theorem Lo.plain{j:Nat}{v:Vl}(h:Lo w0 b' i s vx sv sk ks vs d f w)(q:8≠j)(r:9≠j)(o:17≠j)(p:18≠j)(x:21≠j)(y:25≠j)(u:Ee b' i s vx sv sk j v)(a:Chg w w' []):Lo w0 b' i s vx sv sk ks vs (BA d j) (Eb f j v) w':=by
 have up:∀k,d k=true->BA d j k=true:=fun k t=>by unfold BA;split;rfl;exact t
 refine⟨h.chg.trans (a.none _),h.vals' u, ?_, ?_, ?_, ?_, ?_, ?_, ?_, ?_, ?_, ?_, ?_, ?_, ?_⟩<;>simp only[An d q,An d r,An d o,An d p,An d x,An d y,AA f v q,AA f v r,AA f v o,AA f v p]
 .exact fun e=>up 5 (h.o9 e)
 .exact fun e=>⟨(h.o18 e).1,up 14 (h.o18 e).2⟩
 .exact h.o21
 .exact h.o25
 .exact fun e=>(h.blk0 e).kept a
 .exact fun e n=>(h.blk1 e n).kept a
 .exact fun e=>(h.blk2 e).kept a
 .exact fun e=>(h.keys0 e).kept a
 .exact fun e=>(h.items0 e).kept a
 .exact fun e n=>by obtain⟨B,b,l,m⟩:=h.r8 e n;exact⟨B,b,l.kept a,m⟩
 .exact fun e n=>by obtain⟨B,b,l,m⟩:=h.r17 e n;exact⟨B,b,l.kept a,m⟩
 .exact fun e=>by obtain⟨g,c,b,l,m⟩:=h.r9 e;exact⟨g,c,b,l.kept a,m⟩
 .exact fun e=>by obtain⟨g,c,b,l,m⟩:=h.r18 e;exact⟨g,c,b,l.kept a,m⟩
theorem Lo.new8(h:Lo w0 b' i s vx sv sk ks vs d f w):Lo w0 b' i s vx sv sk ks vs (BA d 8) (Eb f 8 (nS (nM ⟨w.heap.size,0,nN⟩) 1 1)) (w.alloc (nC #[nG s] 9)):=by
 have a:Chg w (w.alloc (nC #[nG s] 9)) []:=(Chg.refl w []).alloc _;have n:∀k,k≠8->BA d 8 k=d k:=fun k p=>An d p
 have m:∀k,k≠8->Eb f 8 (nS (nM ⟨w.heap.size,0,nN⟩) 1 1) k=f k:=fun k p=>AA f _ p
 refine⟨h.chg.trans (a.none _),h.vals' (by simp[Ee]), ?_, ?_, ?_, ?_, ?_, ?_, ?_, ?_, ?_, ?_, ?_, ?_, ?_⟩<;>simp only[n 5 ZM,n 9 ZM,n 14 ZM,n 17 ZM,n 18 ZM,n 21 ZM,n 25 ZM,m 9 ZM,m 17 ZM,m 18 ZM]
 .exact h.o9
 .exact h.o18
 .exact h.o21
 .exact h.o25
 .exact fun e=>(h.blk0 e).kept a
 .exact fun e o=>(h.blk1 e o).kept a
 .exact fun e=>(h.blk2 e).kept a
 .exact fun e=>(h.keys0 e).kept a
 .exact fun e=>(h.items0 e).kept a
 .exact fun _ _=>⟨w.heap.size,Bf _ _ _,Ac.new w [nG s] _,h.chg.size⟩
 .exact fun e o=>by obtain⟨B,b,j,l⟩:=h.r17 e o;exact⟨B,b,j.kept a,l⟩
 .exact fun e=>by obtain⟨g,c,b,j,l⟩:=h.r9 e;exact⟨g,c,b,j.kept a,l⟩
 .exact fun e=>by obtain⟨g,c,b,j,l⟩:=h.r18 e;exact⟨g,c,b,j.kept a,l⟩
theorem Lo.new17(h:Lo w0 b' i s vx sv sk ks vs d f w):Lo w0 b' i s vx sv sk ks vs (BA d 17) (Eb f 17 (nS (nM ⟨w.heap.size,0,nN⟩) 1 1)) (w.alloc (nC #[vx] 95)):=by
 have a:Chg w (w.alloc (nC #[vx] 95)) []:=(Chg.refl w []).alloc _;have n:∀k,k≠17->BA d 17 k=d k:=fun k p=>An d p
 have m:∀k,k≠17->Eb f 17 (nS (nM ⟨w.heap.size,0,nN⟩) 1 1) k=f k:=fun k p=>AA f _ p
 refine⟨h.chg.trans (a.none _),h.vals' (by simp[Ee]), ?_, ?_, ?_, ?_, ?_, ?_, ?_, ?_, ?_, ?_, ?_, ?_, ?_⟩<;>simp only[n 5 ZM,n 8 ZM,n 9 ZM,n 14 ZM,n 18 ZM,n 21 ZM,n 25 ZM,m 9 ZM,m 8 ZM,m 18 ZM]
 .exact h.o9
 .exact h.o18
 .exact h.o21
 .exact h.o25
 .exact fun e=>(h.blk0 e).kept a
 .exact fun e o=>(h.blk1 e o).kept a
 .exact fun e=>(h.blk2 e).kept a
 .exact fun e=>(h.keys0 e).kept a
 .exact fun e=>(h.items0 e).kept a
 .exact fun e o=>by obtain⟨B,b,j,l⟩:=h.r8 e o;exact⟨B,b,j.kept a,l⟩
 .exact fun _ _=>⟨w.heap.size,Bf _ _ _,Ac.new w [vx] _,h.chg.size⟩
 .exact fun e=>by obtain⟨g,c,b,j,l⟩:=h.r9 e;exact⟨g,c,b,j.kept a,l⟩
 .exact fun e=>by obtain⟨g,c,b,j,l⟩:=h.r18 e;exact⟨g,c,b,j.kept a,l⟩
theorem Lo.call9{g b:Nat}(o:Nh w0 b' sv sk)(h:Lo w0 b' i s vx sv sk ks vs d f w)(q:d 9=false)(z:d 5=true)(D:AK w' (nS (nM ⟨g,0,nN⟩) (ks.length+1) b) 9 (Ad (ks.insertIdx i s)))(j:Chg w w' sk.ownBlock.toList)(E:sk.ownBlock=nM g\/w.heap.size<=g):
  Lo w0 b' i s vx sv sk ks vs (BA d 9) (Eb f 9 (nS (nM ⟨g,0,nN⟩) (ks.length+1) b)) w':=by
 have n:∀k,k≠9->BA d 9 k=d k:=fun k p=>An d p
 have m:∀k,k≠9->Eb f 9 (nS (nM ⟨g,0,nN⟩) (ks.length+1) b) k=f k:=fun k p=>AA f _ p
 have c:d 18=false:=by cases e:d 18 with
  |false=>rfl
  |true=>rw[(h.o18 e).1]at q;cases q
 have l:d 21=false:=by cases e:d 21 with
  |false=>rfl
  |true=>rw[h.o21 e]at c;cases c
 have x:d 25=false:=by cases e:d 25 with
  |false=>rfl
  |true=>rw[h.o25 e]at l;cases l
 have A:b'∉sk.ownBlock.toList:=fun a=>(o.lk b' (by simpa using a)).2.1 rfl
 refine⟨h.chg.trans (j.mono fun _ _ a=>Qg _ (Qe _ a)),h.vals' (by simp[Ee]), ?_, ?_, ?_, ?_, ?_, ?_, ?_, ?_, ?_, ?_, ?_, ?_, ?_⟩<;>simp only[n 5 ZM,n 8 ZM,n 14 ZM,n 17 ZM,n 18 ZM,n 21 ZM,n 25 ZM,m 8 ZM,m 17 ZM,m 18 ZM,BG,Bf]
 .exact fun _=>z
 .rw[c];intro e;cases e
 .exact h.o21
 .exact h.o25
 .exact fun e=>(h.blk0 e).kept j A
 .rw[l];intro e;cases e
 .rw[x];intro e;cases e
 .intro e;cases e
 .exact fun e=>(h.items0 e).kept j (fun y C a=>(o.lk y (by simpa using a)).2.2 C)
 .intro _ e;cases e
 .exact fun e v=>by
   obtain⟨B,r,t,u⟩:=h.r17 e v;exact⟨B,r,t.kept j (fun a=>by have:=(o.lk B (by simpa using a)).1;omega),u⟩
 .exact fun _=>⟨g,b,rfl,D,E.imp id fun e=>Q7 h.chg.size e⟩
 .rw[c];intro e;cases e
theorem Lo.call18{g j:Nat}(q:Nh w0 b' sv sk)(h:Lo w0 b' i s vx sv sk ks vs d f w)(t:d 18=false)(l:d 9=true)(C:d 14=true)(E:AK w' (nS (nM ⟨g,0,nN⟩) (vs.length+1) j) 95 (vs.insertIdx i vx))(p:Chg w w' sv.ownBlock.toList)(b:sv.ownBlock=nM g\/w.heap.size<=g):
  Lo w0 b' i s vx sv sk ks vs (BA d 18) (Eb f 18 (nS (nM ⟨g,0,nN⟩) (vs.length+1) j)) w':=by
 have n:∀k,k≠18->BA d 18 k=d k:=fun k r=>An d r
 have m:∀k,k≠18->Eb f 18 (nS (nM ⟨g,0,nN⟩) (vs.length+1) j) k=f k:=fun k r=>AA f _ r
 have o:d 21=false:=by cases e:d 21 with
  |false=>rfl
  |true=>rw[h.o21 e]at t;cases t
 have B:d 25=false:=by cases e:d 25 with
  |false=>rfl
  |true=>rw[h.o25 e]at o;cases o
 have D:b'∉sv.ownBlock.toList:=fun a=>(q.lv b' (by simpa using a)).2 rfl
 obtain⟨gk,A,x,z,c⟩:=h.r9 l
 have u:gk∉sv.ownBlock.toList:=fun a=>by
  have a:sv.ownBlock=nM gk:=by simpa using a
  rcases c with c|c
  .exact(q.lk gk c).2.2 a
  .have:=(q.lv gk a).1;omega
 have F:gk<w.heap.size:=z.lt rfl;refine⟨h.chg.trans (p.mono fun _ _ a=>Qg _ (Qd _ a)),h.vals' (by simp[Ee]), ?_, ?_, ?_, ?_, ?_, ?_, ?_, ?_, ?_, ?_, ?_, ?_, ?_⟩<;>simp only[n 5 ZM,n 8 ZM,n 9 ZM,n 14 ZM,n 17 ZM,n 21 ZM,n 25 ZM,m 8 ZM,m 9 ZM,m 17 ZM,BG,Bf]
 .exact h.o9
 .exact fun _=>⟨l,C⟩
 .exact fun _=>trivial
 .exact h.o25
 .exact fun e=>(h.blk0 e).kept p D
 .rw[o];intro e;cases e
 .rw[B];intro e;cases e
 .rw[l];intro e;cases e
 .intro e;cases e
 .rw[l];intro _ e;cases e
 .intro _ e;cases e
 .exact fun _=>⟨gk,A,x,z.kept p (fun y v a=>by simp[Vl.ownBlock]at v;subst v;exact u a),c⟩
 .refine fun _=>⟨g,j,rfl,E,b.imp id fun e=>Q7 h.chg.size e, ?_⟩
  rw[x];simp only[Vl.ownBlock,ne_eq,Option.some.injEq];intro e;subst e
  rcases b with b|b
  .exact u (by simp[b])
  .omega
theorem Lo.store21(h:Lo w0 b' i s vx sv sk ks vs d f w)(c:Nh w0 b' sv sk)(j:d 21=false)(b:d 18=true):Lo w0 b' i s vx sv sk ks vs (BA d 21) (Eb f 21 undef) (w.setCell ⟨b',1,nN⟩ (f 9)):=by
 have n:∀k,k≠21->BA d 21 k=d k:=fun k p=>An d p
 have m:∀k,k≠21->Eb f 21 undef k=f k:=fun k p=>AA f _ p
 have z:d 25=false:=by cases e:d 25 with
  |false=>rfl
  |true=>rw[h.o25 e]at j;cases j
 have l:=(h.o18 b).1;have o:Chg w (w.setCell ⟨b',1,nN⟩ (f 9)) [b']:=(Chg.refl w [b']).setCell _ _ Zh;obtain⟨gk,v,D,E,u⟩:=h.r9 l;obtain⟨g,x,A,B,t,C⟩:=h.r18 b
 have F:gk≠b':=by
  rcases u with q|q
  .exact(c.lk gk q).2.1
  .have:=c.lb;omega
 have G:g≠b':=by
  rcases t with q|q
  .exact(c.lv g q).2
  .have:=c.lb;omega
 refine⟨h.chg.trans (o.mono fun _ _ a=>by simp at a;simp[a]),h.vals' (by simp[Ee]), ?_, ?_, ?_, ?_, ?_, ?_, ?_, ?_, ?_, ?_, ?_, ?_, ?_⟩<;>simp only[n 5 ZM,n 8 ZM,n 9 ZM,n 14 ZM,n 17 ZM,n 18 ZM,n 25 ZM,m 8 ZM,m 9 ZM,m 17 ZM,m 18 ZM,BG]
 .exact h.o9
 .exact h.o18
 .exact fun _=>b
 .exact fun _=>trivial
 .intro e;cases e
 .exact fun _ _=>(h.blk0 j).set 1 (f 9)
 .rw[z];intro e;cases e
 .rw[l];intro e;cases e
 .rw[b];intro e;cases e
 .rw[l];intro _ e;cases e
 .rw[b];intro _ e;cases e
 .exact fun _=>⟨gk,v,D,E.kept o (fun y r a=>by simp[Vl.ownBlock]at r a;omega),u⟩
 .exact fun _=>⟨g,x,A,B.kept o (fun y r a=>by simp[Vl.ownBlock]at r a;omega),t,C⟩
theorem Lo.store25(h:Lo w0 b' i s vx sv sk ks vs d f w)(g:Nh w0 b' sv sk)(z:d 25=false)(c:d 21=true):Lo w0 b' i s vx sv sk ks vs (BA d 25) (Eb f 25 undef) (w.setCell ⟨b',0,nN⟩ (f 18)):=by
 have n:∀k,k≠25->BA d 25 k=d k:=fun k p=>An d p
 have m:∀k,k≠25->Eb f 25 undef k=f k:=fun k p=>AA f _ p
 have b:=h.o21 c;have l:=(h.o18 b).1;have o:Chg w (w.setCell ⟨b',0,nN⟩ (f 18)) [b']:=(Chg.refl w [b']).setCell _ _ Zh;obtain⟨gk,v,D,E,u⟩:=h.r9 l;obtain⟨j,x,A,B,t,C⟩:=h.r18 b
 have F:gk≠b':=by
  rcases u with q|q
  .exact(g.lk gk q).2.1
  .have:=g.lb;omega
 have G:j≠b':=by
  rcases t with q|q
  .exact(g.lv j q).2
  .have:=g.lb;omega
 refine⟨h.chg.trans (o.mono fun _ _ a=>by simp at a;simp[a]),h.vals' (by simp[Ee]), ?_, ?_, ?_, ?_, ?_, ?_, ?_, ?_, ?_, ?_, ?_, ?_, ?_⟩<;>simp only[n 5 ZM,n 8 ZM,n 9 ZM,n 14 ZM,n 17 ZM,n 18 ZM,n 21 ZM,m 8 ZM,m 9 ZM,m 17 ZM,m 18 ZM,BG]
 .exact h.o9
 .exact h.o18
 .exact h.o21
 .exact fun _=>c
 .rw[c];intro e;cases e
 .intro _ e;cases e
 .exact fun _=>(h.blk1 c z).set 0 (f 18)
 .rw[l];intro e;cases e
 .rw[b];intro e;cases e
 .rw[l];intro _ e;cases e
 .rw[b];intro _ e;cases e
 .exact fun _=>⟨gk,v,D,E.kept o (fun y r a=>by simp[Vl.ownBlock]at r a;omega),u⟩
 .exact fun _=>⟨j,x,A,B.kept o (fun y r a=>by simp[Vl.ownBlock]at r a;omega),t,C⟩
end
theorem DJ.put{b:Wl}{c rest:List Nat}{o:Option Nat}{g:Nat}(h:DJ b c (o.toList++rest))(a:o=nM g\/b.heap.size<=g)(d:b.heap.size<=g->g∉rest):DJ b c (g::rest):=by
 rcases a with a|a
 .rw[a]at h;exact h
 .exact(h.sub (List.sublist_append_right _ _)).cons a (d a)
def Wd(w f d:Wl)(W a:Nat)(e:Tr)(v sv sk:Vl)(c:List Nat):Prop:=
 ∃b,AP d e v b/\DJ f c (W::b)/\Chg w d (W::a::(sk.ownBlock.toList++sv.ownBlock.toList))/\(∀y,y∈W::a::(sk.ownBlock.toList++sv.ownBlock.toList)->y∈c)/\W∉a::(sk.ownBlock.toList++sv.ownBlock.toList)
theorem Yu{w m j:Wl}{W k gk E D P O i:Nat}{t x:Tr}{v B uv sv sk:Vl}{bs f C rest:List Nat}{N:List BY}{s:BY}{ks:List BY}{l:List Tr}{d:Nat}{vs:List Vl}{g:List Nat}(G:Hu w W t v uv bs)(J:Ir w t v bs N (.obj ks l) (IR d) C rest)(V:PS w ks l d sv sk vs g)(ab:C=d::(sv.ownBlock.toList++(sk.ownBlock.toList++g)))(u:(W::(f++bs)).Nodup)(M:AP w x B f)(hi:i<=l.length)(aa:Cj s x (.obj ks l)= .obj (ks.insertIdx i s) (l.insertIdx i x))(H:Chg w m [W])(ae:Chg m j (d::(sk.ownBlock.toList++sv.ownBlock.toList)))(X:Ac j d [nS (nM ⟨k,0,nN⟩) P E,nS (nM ⟨gk,0,nN⟩) O D] 177)(Z:AK j (nS (nM ⟨k,0,nN⟩) P E) 95 (vs.insertIdx i B))(Y:AK j (nS (nM ⟨gk,0,nN⟩) O D) 9 (Ad (ks.insertIdx i s)))(ai:sv.ownBlock=nM k\/m.heap.size<=k)(ah:sk.ownBlock=nM gk\/m.heap.size<=gk)(am:gk≠k):
  Wd w m j W d (Bz (Cj s x) t N) v sv sk (W::(f++bs)):=by
 have af:=List.nodup_iff_count.1 u;have L:=J.perm;subst ab;have K:=fun a=>L.count_eq a
 have hz:=H.size;have n:=AP.lt _ _ _ G.at_;have ak:=AP.lt _ _ _ M;have aw:=G.blk.lt;have o:∀y,y∈(d::(sv.ownBlock.toList++(sk.ownBlock.toList++g)))++rest->y∈bs:=fun y b=>L.mem_iff.2 b
 have A:∀y,y∈f++bs->y≠W:=fun y b e=>by subst e;exact(List.nodup_cons.1 u).1 b
 have q:∀y,y∈d::(sk.ownBlock.toList++sv.ownBlock.toList)->y∈bs:=fun y b=>o y (by
  simp only[Qh,Qf]at b|-
  rcases b with h|h|h
  .exact .inl (.inl h)
  .exact .inl (.inr (.inr (.inl h)))
  .exact .inl (.inr (.inl h)))
 have al:((d::(sk.ownBlock.toList++sv.ownBlock.toList))++(g++rest)).Nodup:=by
  rw[List.nodup_iff_count];intro a;have z:=af a;have p:=K a;simp only[List.count_cons,List.count_append]at z p|-;omega
 have ad:∀y,y∈f->y∉bs:=fun y b c=>Cd (List.nodup_cons.1 u).2 b c
 have r:Chg w j (W::d::(sk.ownBlock.toList++sv.ownBlock.toList)):=(H.mono (fun _ _ c=>by simp at c;simp[c])).trans (ae.mono (fun _ _ c=>Qg _ c))
 have I:∀y,y∈g++rest->y∉W::d::(sk.ownBlock.toList++sv.ownBlock.toList):=fun y b c=>by
  rcases Qh.1 c with h|h
  .refine A y (Qd _ (o y ?_)) h
   rcases Qf.1 b with h|h
   .simp only[Qh,Qf];exact .inl (.inr (.inr (.inr h)))
   .exact Qd _ h
  .exact Cd al h b
 have ag:Ca g w j:=r.sameB (fun y b=>n y (o y (by simp only[Qh,Qf];exact .inl (.inr (.inr (.inr b)))))) (fun y b=>I y (Qe _ b));have ap:Ca rest w j:=r.sameB (fun y b=>n y (o y (Qd _ b))) (fun y b=>I y (Qd _ b))
 have ar:AP j x B f:=M.chg r (fun y b c=>by
  rcases Qh.1 b with h|h
  .exact A y (Qe _ c) h
  .exact ad y c (q y h))
 obtain⟨av,hO,an⟩:=V.insert (i:=i) (s:=s) hi ar X Z Y ag;obtain⟨S,k1,k2⟩:=J.back (Cj s x) _ _ (by rw[aa];exact hO.pat) ap;have aj:=fun a=>k2.count_eq a
 have ao:=fun a=>an.count_eq a
 have F:∀y,y∈W::d::(f++(g++rest))->y<w.heap.size:=fun y b=>by
  simp only[Qh,Qf]at b
  rcases b with h|h|h|h|h
  .omega
  .have:=n d (q d Zh);omega
  .exact ak y h
  .exact n y (o y (by simp only[Qh,Qf];exact .inl (.inr (.inr (.inr h)))))
  .exact n y (o y (Qd _ h))
 have aq:∀y,y∈sk.ownBlock.toList->y<w.heap.size:=fun y b=>n y (q y (by simp only[Qh,Qf];exact .inr (.inl b)))
 have T:DJ m (W::(f++bs)) (sv.ownBlock.toList++(sk.ownBlock.toList++(W::d::(f++(g++rest))))):=(DJ.refl u).count (fun a=>by
  have p:=K a;simp only[List.count_cons,List.count_append]at p|-
  omega)
 have z:=T.put ai (fun au c=>by
  rcases Qf.1 c with h|h
  .have:=aq k h;omega
  .have:=F k h;omega)
 have p:DJ m (W::(f++bs)) (sk.ownBlock.toList++(k::W::d::(f++(g++rest)))):=z.count (fun a=>by simp only[List.count_cons,List.count_append];omega)
 have U:=p.put ah (fun au c=>by
  rcases Qh.1 c with h|h
  .exact am h
  .have:=F gk h;omega)
 refine⟨S,k1,U.count (fun a=> ?_),r,fun y b=> ?_,fun c=>A W (Qd _ (q W c)) rfl⟩
 .have Q:=aj a;have R:=ao a
  simp only[Vl.ownBlock,Option.toList_some,List.count_cons,List.count_append,List.count_nil]at Q R|-;omega
 .rcases Qh.1 b with h|h
  .simp[h]
  .simp[q y h]
theorem SM{t:Tr}{a:List BY}{s:BY}{ks:List BY}{l:List Tr}(c:Ah t a=nM (.obj ks l))(b:C4 ks s=false):(Dd t (a++[s])).toI=AC 2 (a++[s]) []:=by
 unfold Dd;rw[Qs Zh,List.dropLast_concat,BE,c]
 show(GF a s (.obj ks l)).toI=_
 unfold GF;simp only;rw[Qs (by simp[b])];rfl
end
end Go.Proofs.YtkfnkppdhcaeoaaGreatDoor

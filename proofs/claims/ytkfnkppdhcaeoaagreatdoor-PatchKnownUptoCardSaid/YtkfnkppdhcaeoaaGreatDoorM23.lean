/- Part 23 of the proof of coreBase. -/
import Derived.Test.YtkfnkppdhcaeoaaGreatDoorM22
set_option maxRecDepth 100000
set_option maxHeartbeats 32000000
set_option linter.all false
namespace Go.Proofs.YtkfnkppdhcaeoaaGreatDoor
open Go renaming Calls->Cl,TypeId->Ti,Value->Vl,World->Wl
open Go.Value renaming agg->nA,iface->nF,int->nI,pointer->nP,slice->nS,string->nG,tuple->nT
open Go.IntKind renaming i64->nX
open Go.Ending renaming returned->nR
open Option renaming none->nN,some->nM
section
open Go Go.Shelf Go.RowKit Go.Lib Tree Ptr
theorem XK{w i:Wl}{W g c pi:Nat}{t x:Tr}{v s uv:Vl}{bs n C rest:List Nat}{M:List BY}{l:List Tr}{k:Nat}{f:Tr->Tr}{vs:List Vl}{m:List Nat}{u:Tr}(S:Hu w W t v uv bs)(K:Ir w t v bs M (.list l) (Jn k) C rest)(D:Sy w l k (nS (nM ⟨g,0,nN⟩) vs.length c) vs m)(U:C=k::((Vl.slice (nM ⟨g,0,nN⟩) vs.length c).ownBlock.toList++m))(G:(W::(n++bs)).Nodup)(hx:AP w x s n)(hu:l[pi]? =nM u)(T:f (.list l)= .list (l.set pi x))(q:Chg w i [W]):
  ∃z,AP (i.setCell ⟨g,pi,nN⟩ s) (Bz (f) t M) v z/\DJ i (W::(n++bs)) (W::z)/\(∃v0,i.cell? ⟨g,pi,nN⟩=nM v0)/\(∀j,i.frozen? ⟨g,j,nN⟩=false)/\g∈bs/\g∉rest:=by
 have J:=List.nodup_iff_count.1 G;have I:=K.perm;have H:=fun a=>I.count_eq a
 have ah:bs.Perm (C++rest):=I;subst U;have E:∀y,y∈n++bs->y≠W:=fun y h e=>by subst e;exact(List.nodup_cons.1 G).1 h
 have B:∀y,y∈(k::((Vl.slice (nM ⟨g,0,nN⟩) vs.length c).ownBlock.toList++m))++rest->y∈bs:=fun y h=>I.mem_iff.2 h
 have P:Sy i l k (nS (nM ⟨g,0,nN⟩) vs.length c) vs m:=by
  have F:∀y,y∈k::((Vl.slice (nM ⟨g,0,nN⟩) vs.length c).ownBlock.toList++m)->y∉[W]:=fun y h d=>by
   simp at d;exact E y (Qd _ (B y (Qe _ h))) d
  exact⟨D.blk.kept q (F _ Zh),D.lst.kept q (fun y h=>F y (by simp only[Qh,Qf];exact .inr (.inl (by rw[h];simp)))),
   D.at_.chg q (fun y h d=>F y (by simp only[Qh,Qf];exact .inr (.inr d)) h)⟩
 have af:AP i x s n:=hx.chg q (fun y h d=>by simp at h;exact E y (Qe _ d) h)
 have Z:(n++(k::((Vl.slice (nM ⟨g,0,nN⟩) vs.length c).ownBlock.toList++m))).Nodup:=by
  rw[List.nodup_iff_count];intro a;have o:=J a;have p:=H a;simp only[List.count_cons,List.count_append]at o p|-;omega
 obtain⟨g',c',e,ae,X,bu,r,ag,aa,ab,Q⟩:=P.set hu Z af
 injection e with e _ _
 injection e with e
 injection e with e _ _
 subst e;have Y:g∈bs:=B g (by simp[Vl.ownBlock])
 have L:g∉rest:=Cd (l:=k::((Vl.slice (nM ⟨g,0,nN⟩) vs.length c).ownBlock.toList++m)) (by
  rw[List.nodup_iff_count];intro a;have o:=J a;have p:=H a;simp only[List.count_cons,List.count_append]at o p|-
  omega) (by simp[Vl.ownBlock])
 have R:=AP.lt _ _ _ S.at_;have V:Chg w (i.setCell ⟨g,pi,nN⟩ s) [W,g]:=(q.mono (fun _ _ d=>by simp at d;simp[d])).setCell _ _ Zh
 have ad:Ca rest w (i.setCell ⟨g,pi,nN⟩ s):=V.sameB (fun b A=>R b (B b (Qd _ A))) (fun b A d=>by
  simp at d
  rcases d with rfl|rfl
  .exact E b (Qd _ (B b (Qd _ A))) rfl
  .exact L A)
 obtain⟨z,k1,k2⟩:=K.back (f) _ _ (by rw[T];exact Q.pat) ad;refine⟨z,k1,(DJ.refl G).count (fun a=> ?_),ae,X,Y,L⟩;have o:=k2.count_eq a;have p:=H a;have N:=aa.count_eq a;have O:=ab.count_eq a;simp only[List.count_cons,List.count_append]at o p N O|-;omega
end
section
open _root_.Go.Proofs.Tryz
open Go Go.Shelf Go.RowKit Go.Lib Tree Ptr
theorem Ty(W:Nat)(t x u:Tr)(v U vx:Vl)(bs X:List Nat)(F:Nat->Prop)(a:Option Addr)(c:Nat)(d:List BY)(s:BY)(w:Wl)(l:List Tr)(h:Sx W t x v U vx bs X F (nS a (d.length+1) c) (d++[s]) w)(O:Ah t d=nM (.list l))(al:Dy (.list l) s=nM u):
  Cl prog 168 #[nP (nM ⟨W,0,nN⟩),nS a (d.length+1) c,vx] w (Du W U (W::(X++bs)) t x (d++[s]) w):=by
 obtain⟨pi,S,T⟩:=Rd al;have aP:d++[s]≠[]:=Zh
 have K:Ah t (d++[s])=nM u:=by rw[BW,O];exact al
 obtain⟨b,o,rfl,ai,av,aC,bc,bd,aL⟩:=h.tat.last;have lb:=h.tat.lt b ai;obtain⟨tx,xx,rfl⟩:=h.xat.iface;obtain⟨tv,xv,rfl⟩:=h.wat.at_.iface;obtain⟨vp,bp,rest,H⟩:=EU h.wat.at_ _ d _ rfl O;obtain⟨E,sv,vs,fs,rfl,C,M⟩:=H.at_.list;have aO:l.length<=65536:=by have:=(h.wat.fine.lead O).many;simp only[Ab]at this;omega
 have aQ:pi<l.length:=Jf S;obtain⟨vu,bu,ad,aa,ar⟩:=C.at_.get T;obtain⟨_,_,_,_,aU,aX,r2,_,A,q6,q7,az⟩:=Fx H.at_ (s:=s) (by simp only[D6];exact S) T;have aA:=H.snoc az;obtain⟨tu,xu,rfl⟩:=aa.iface;have aE:=C.at_.length
 obtain⟨g,Y,rfl,ba⟩:∃g Y,sv= nS (nM ⟨g,0,nN⟩) vs.length Y/\vs.length<=Y:=by
  rcases C.lst.one with⟨_,e⟩|h
  .rw[e]at ad;simp at ad
  .exact h
 have a7:aU= nF tu xu:=by
  unfold Jn at A
  injection A with _ A
  injection A with A
  injection A with A
  injection A with A
  subst A;have B:=C.blk.cell 0;simp only[Qa]at B;rw[q6]at B
  injection B with B
  injection B with B
  injection B with B
  injection B with B
  subst B;have e7:=C.lst.cell rfl pi _ ad;rw[q7]at e7;injection e7
 subst a7;have Z:=h.wat.fine.lead K;have aR:=Ar h.xfine.fits;have am:=Ar h.wat.fine.fits;obtain⟨q1,q2,q3⟩:=J4 (x:=x) h.wat.fine K;have ab:=KC (x:=x) h.wat.fine K;have aF:KT w (nF tu xu) (Ag u).nodes (Ag u).bytes:= .inr ⟨u,bu,aa,Z.good,Z.fits,rfl,rfl⟩;have aB:(d++[s]).length=d.length+1:=Zh
 rw[aB]at ab
 have Q:=UD (∀q,Chg w q []->Cl prog 195 #[nP (nM ⟨W,0,nN⟩),nS (nM ⟨b,o,nN⟩) (d.length+1) c,nF tx xx,nF tu xu,nI nX 0] q (Dh W (nF tv xv) U (Ag (AE t (d++[s]) x)).nodes (Ag (AE t (d++[s]) x)).bytes (d.length+1+(Ag x).depth) q)) fun q J=>
  Jl W _ U _ _ x _ _ X _ _ _ _ 0 _ _ c q (h.wat.blk.kept J) (h.xat.chg J Zh) h.xfine.good h.xfine.fits (aF.kept J) am.1 am.2.1 Zj aC q1 Zj
 have ag:=hZ (Dl h.laid h.wat h.tat aA)
 have au:∀y,y∈bu->y≠W/\y≠g:=fun y f=>by
  have a8:=ar y f;have aw:=List.nodup_iff_count.1 h.nodup y;have aD:=H.perm.count_eq y;rw[M]at aD;have z:=List.count_pos_iff.2 a8;simp only[List.count_cons,List.count_append,Vl.ownBlock,Option.toList_some,List.count_nil]at aw aD
  constructor
  .intro e;subst e;simp at aw;omega
  .intro e;subst e;simp at aw aD;omega
 have ak:∀y,y∈bp->y∈bs:=fun y f=>H.perm.mem_iff.2 (Qe _ f)
 have aN:g∈bs:=ak g (by rw[M];simp[Vl.ownBlock])
 have aj:W∉bp:=fun k=>by
  have:=ak W k;have hn:=h.nodup;simp[this]at hn
 have N:∀y,y∈[W,g]->y∈W::(X++bs):=fun y f=>by simp at f;rcases f with rfl|rfl;simp;simp[aN]
 have ao:=UD (∀q,Chg w q [W,g]->Cl prog 196 #[nI nX 3,nS (nM ⟨b,o,nN⟩) (d.length+1) c,nF tu xu] q (Et (AC 3 (d++[s]) (Ai u)) q)) fun q J=>by
  have ht:=h.tat.kept J (fun y f=>h.apart y (N y f));exact DE 3 F _ (d++[s]) u _ bu q (h.laid.kept J (fun y f=>h.big y (N y f))) ht.row ht.lt ht.ok ht.small Z (aa.chg J (fun y f k=>by simp at f;have:=au y k;omega))
 have c1:w.cell? ⟨E,0,nN⟩=nM (nS (nM ⟨g,0,nN⟩) vs.length Y):=C.blk.cell 0
 have aq:(fun p=>Bz (fun _=>x) p [s]) (.list l)= .list (l.set pi x):=by
  show Bz (fun _=>x) (.list l) [s]=_
  rw[BF (by simp only[D6];exact S:D6 (.list l) s=nM pi) T];rfl
 have ap:=UD (∀n,Chg w n [W]->∃ah,AP (n.setCell ⟨g,pi,nN⟩ (nF tx xx)) (Bz (fun p=>Bz (fun _=>x) p [s]) t d) (nF tv xv) ah/\DJ n (W::(X++bs)) (W::ah)/\(∃v0,n.cell? ⟨g,pi,nN⟩=nM v0)/\(∀j,n.frozen? ⟨g,j,nN⟩=false)/\g∈bs/\g∉rest) fun n R=>
  XK h.wat H C M h.nodup h.xat T aq R
 have HH:=hZ h;have aK:E≠W:=fun e=>aj (by rw[M,<-e];simp)
 have a3:g≠W:=fun e=>aj (by rw[M,<-e];simp[Vl.ownBlock])
 have lW:=h.wat.blk.lt;have lg:=C.lst.lt (g:=g) rfl;have aT:=C.blk.lt;have bb:pi<vs.length:=Zj
 have an:=UD (∀n,Ac n W [nF tv xv,nI nX (Ag (AE t (d++[s]) x)).nodes,nI nX (Ag (AE t (d++[s]) x)).bytes,U] 98->Chg w n [W]->Cl prog 201 #[nP (nM ⟨W,0,nN⟩),nS (nM ⟨b,o,nN⟩) d.length c] n (fun e w'=>e= nR (nT #[Jn E,.bool true])/\Chg n w' [])) fun n D R=>by
  have hi:=h.tat.init.kept R (fun y f=>h.apart y (N y (by simp at f;simp[f])));have a5:AP n t (nF tv xv) bs:=h.wat.at_.chg R (fun y f k=>by simp at f;subst f;have hn:=h.nodup;simp[k]at hn);have a6:Ca bs w n:=R.sameB (AP.lt _ _ _ h.wat.at_) (fun y f k=>by simp at k;subst k;have hn:=h.nodup;simp[f]at hn);have:=LJ W t _ _ _ U bs F _ d n (h.laid.kept R (fun y f=>h.big y (N y (by simp at f;simp[f])))) D a5 h.wat.fine hi.row hi.ok hi.small Zj;rw[Iv O]at this;refine this.mono fun e w' ⟨z,aU,aX,bg,h2,h3⟩=>⟨?_,z⟩
  rw[h2,(Dv.same d t _ _ bs h.wat.at_ a6 H.reach).inj h3.reach]
 have aI:=UD (∀q,Chg w q [W]->Cl prog 149 #[nG s,nI nX vs.length] q (fun e w'=>e= nR (nT #[nI nX pi,.bool true])/\Chg q w' [])) fun q J=>by
  have:=Gl s l.length q (h.laid.kept J (fun y f=>h.big y (N y (by simp at f;simp[f])))) Zj Zj;unfold Je at this;rw[S]at this;rw[aE];exact this
 have aZ:b≠W:=fun e=>h.apart W Zh (by rw[<-e];exact ai)
 have a0:∀(w:Wl),(Instr.typeAssert (nF 104 (nP (nM ⟨E,0,nN⟩))) 95 175 true).run prog w= .ok (nT #[nP nN,.bool false]) w:=fun _=>Yb
 have a1:∀(w:Wl),(Instr.typeAssert (nF 104 (nP (nM ⟨E,0,nN⟩))) 95 104 true).run prog w= .ok (nT #[nP (nM ⟨E,0,nN⟩),.bool true]) w:=fun _=>Yb
 have ax:Bz (fun p=>Bz (fun _=>x) p [s]) t d=AE t (d++[s]) x:=by unfold AE;rw[Gh]
 rw[ax]at ap;have ay:(Ag (AE t (d++[s]) x)).within=true->Bt (AE t (d++[s]) x):=fun I=>h.wat.fine.set h.xfine K I
 by_cases I:(Ag (AE t (d++[s]) x)).within=true
 .rw[Pr K I]
  rw[En (by rw[ab];exact I)]at Q;have aW:=hZ (ay I);obtain⟨m,k⟩:=Ue d.length
  rw[<-k]at ag Q ao an av aC aL|-;clear h aP K H C S T ad aa Z aR am q1 q2 q3 ab aF aB k I M ar au aE aQ ay ai O al aO aq az aA ak aj N ax A q6 q7;go_enter func168,ntmps168
  go_wp2_with(first
   |(go_at_call 170;refine(ag.o _ (by exact cg cR)).mono ?_;rintro e w1 ⟨rfl,z⟩;have V:=UD (Chg w w1 []) (ct cR z);have B1:=UD (Ac w1 w.heap.size Ef 42) ((Ac.new w Ef 42).kept z);clear z)
   |(go_at_call 195;refine(Q.o _ (by exact cg V.o)).mono ?_;rintro e n ⟨rfl,h3,r⟩;have aH:=hZ h3;have L:=UD (Chg w n [W]) (ct ((V.o.none [W])) r);have B3:=UD (Ac n w.heap.size Ef 42) (B1.o.kept r (by simp;omega));have e0:=(L.o.cell (p:=⟨b,o+m,nN⟩) lb (by simpa using aZ)).trans av;have be:=Q6 lb L.o.size;clear h3 r)
   |(go_at_call 201;refine(an.o n aH.o L.o).mono ?_;unfold Jn;rintro e w4 ⟨rfl,r⟩;have aG:=hZ r;have H4:=UD (Chg w w4 [W]) (L.o.trans (r.none _));have e1:=aG.o.keeps e0;have d4:=(H4.o.cell (p:=⟨E,0,nN⟩) aT (by simpa using aK)).trans c1;clear r))
  have i0:(0:Int)<=(m:Int):=Zj
  have i1:(m:Int)<(m:Int)+1:=Zj
  have i2:(m:Int)<((m+1:Nat):Int):=Zj
  go_region_held3(fun w'=>w'.cell? ⟨b,o+m,nN⟩=nM (nG s)/\w'.cell? ⟨E,0,nN⟩=nM (nS (nM ⟨g,0,nN⟩) vs.length Y)) (first|exact⟨e1,d4⟩|exact⟨e5,d1⟩)
   (first|(go_at_call 149;refine(aI.o _ (by exact cg H4.o)).mono ?_;rintro e w5 ⟨rfl,r⟩;have ae:=UD (Chg n w5 []) (aG.o.trans (ct cR r));have P:=UD (Chg w w5 [W]) (L.o.trans (ae.o.none _));have B5:=UD (Ac w5 w.heap.size Ef 42) (B3.o.kept ae.o);have d1:=(P.o.cell (p:=⟨E,0,nN⟩) aT (by simpa using aK)).trans c1;have e5:=ae.o.keeps e0;obtain⟨ah,s1,s2,⟨v0,s3⟩,s4,_⟩:=ap.o w5 P.o;have S1:=hZ s1;have S2:=hZ s2;have bf:=Q6 lg P.o.size;clear r s1 s2))
  go_wp2_with(first
   |(go_at_call 196;refine(ao.o _ (by exact(P.o.mono (fun _ _ k=>by simp at k;simp[k])).setCell _ _ Zh)).mono ?_;rintro e w6 h5;obtain⟨sv,ys,G,rfl,k1,k2⟩:=h5.at;have K1:=hZ k1;have K2:=hZ k2;obtain⟨sa,sc,rfl,_⟩:=k1.row.form;clear h5 k1 k2)
   |(refine Ae rfl _ _ _ rfl w.heap.size (BJ (AC 3 (d++[s]) (Ai u)) (nS sa (AC 3 (d++[s]) (Ai u)).steps.length sc)) ZN ZN 42 Ef (by exact(B5.o.set_other _ _ (by simp only;omega)).kept K2.o) A0 rfl (Dx _ _ _ _) ?_;intro w7 a9 aJ aM;have aV:=hZ aJ;have af:=hZ aM;clear a9 aJ aM))
  have aS:=P.o.size;have a2:Chg w w6 [W,g]:=Chg.trans (b:=_) ((P.o.mono (fun _ _ k=>by simp at k;simp[k])).setCell _ _ Zh) (K2.o.none _);have aY:Chg w w7 [W,g]:=a2.step af.o (fun i hi O=>by simp at hi;omega);have hk:=K1.o.kept (w0:=w) af.o (fun b D=>by simp at D;subst D;simpa using B5.o.lt) (by simpa using aS);have a4:=AP.lt _ _ _ S1.o;refine bodyPost_ret (Bi rfl _ _ w.heap.size 42 (BJ (AC 3 (d++[s]) (Ai u)) (nS sa (AC 3 (d++[s]) (Ai u)).steps.length sc)) _ rfl aV.o underlying42 rfl A0) rfl ?_;refine⟨nF tv xv,ah,_,ys,G,rfl,hk,⟨?_, ?_,aW.o⟩,S2.o.back aS,aY.mono (fun _ _ k=> ?_),fun b D hG=> ?_⟩
  .exact(((aH.o.kept ae.o).set_other _ _ (by simp only;exact a3)).kept K2.o).kept af.o (by simp;omega)
  .exact(S1.o.chg K2.o Zh).chg af.o (fun b D k=>by
    simp at D;subst D
    rcases S2.o.come _ (Qg _ k)with h|h
    .rcases Qh.1 h with h|h
     .omega
     .rcases Qf.1 h with h|h
      .have:=AP.lt _ _ _ HH.o.xat _ h;omega
      .have:=AP.lt _ _ _ HH.o.wat.at_ _ h;omega
    .have:=B5.o.lt;omega)
  .simp at k
   rcases k with rfl|rfl
   .simp
   .simp[aN]
  .have z:=(K1.o.new b hG).1
   have h2:w5.heap.size<=b:=by simpa using z
   rcases Qh.1 D with rfl|D
   .omega
   .have:=a4 b D;simp at this;omega
 .rw[J0 K (by simpa using I)]
  rw[DO (by rw[ab];simpa using I)]at Q;obtain⟨m,k⟩:=Ue d.length
  rw[<-k]at ag Q av aC aL|-;clear h aP K H C S T ad aa Z aR am q1 q2 q3 ab aF aB k I M ar au aE aQ ay ai O al aO aq az aA ak aj N ax A q6 q7 ao an ap aI;go_enter func168,ntmps168
  go_wp2_with(first
   |(go_at_call 170;refine(ag.o _ (by exact cg cR)).mono ?_;rintro e w1 ⟨rfl,z⟩;have V:=UD (Chg w w1 []) (ct cR z);have B1:=UD (Ac w1 w.heap.size Ef 42) ((Ac.new w Ef 42).kept z);clear z)
   |(go_at_call 195;refine(Q.o _ (by exact cg V.o)).mono ?_;rintro e n ⟨he,r⟩;unfold By at he;subst he;have L:=UD (Chg w n []) (ct V.o r);clear r))
  exact⟨rfl,rfl,L.o.none _⟩
theorem ae(W:Nat)(t x:Tr)(v e f:Vl)(bs g:List Nat)(F:Nat->Prop)(a:Option Addr)(c:Nat)(ts:List BY)(w:Wl)(h:Sx W t x v e f bs g F (nS a ts.length c) ts w):
  Cl prog 168 #[nP (nM ⟨W,0,nN⟩),nS a ts.length c,f] w (Du W e (W::(g++bs)) t x ts w):=by
 cases b:Ah t ts with
 |none=>
  rw[RP b];exact Tz W t v e f bs F a _ c ts w _ h.laid h.wat h.tat b h.xat.iface
 |some u=>
  by_cases j:ts=[]
  .subst j
   exact TA W t x v e f bs g F a c w h
  .obtain⟨d,s,rfl⟩:∃d s,ts=d++[s]:=⟨ts.dropLast,ts.getLast j,(List.dropLast_concat_getLast j).symm⟩
   have m:(d++[s]).length=d.length+1:=Zh
   rw[m]at h|-;rw[BW]at b
   cases i:Ah t d with
   |none=>rw[i]at b;simp at b
   |some p=>
    rw[i]at b;simp only[Option.bind_some]at b;by_cases k:AX p=true
    .rw[Md k]at b;cases b
    .cases p with
     |list l=>exact Ty W t x u v e f bs g F a c d s w l h i b
     |obj ks l=>exact bG W t x u v e f bs g F a c d s w ks l h i b
     |_=>simp[AX]at k
end
section
open Go Go.Shelf Go.RowKit Go.Lib Tree Ptr
def Ed(a i:Nat)(sv sk:Vl)(j:Nat)(v:Vl):Prop:=
 match j with
 |0=>v= nP (nM ⟨a,0,nN⟩)
 |1=>v= nP (nM ⟨a,0,nN⟩)
 |2=>v= nP (nM ⟨a,0,nN⟩)
 |3=>v= nP (nM ⟨a,0,nN⟩)
 |10=>v= nP (nM ⟨a,0,nN⟩)
 |11=>v= nP (nM ⟨a,0,nN⟩)
 |12=>v= nP (nM ⟨a,0,nN⟩)
 |13=>v= nP (nM ⟨a,0,nN⟩)
 |19=>v= nP (nM ⟨a,0,nN⟩)
 |22=>v= nP (nM ⟨a,0,nN⟩)
 |23=>v= nP (nM ⟨a,0,nN⟩)
 |24=>v= nP (nM ⟨a,0,nN⟩)
 |4=>v= nP (nM ⟨a,1,nN⟩)
 |20=>v= nP (nM ⟨a,1,nN⟩)
 |5=>v=sk
 |14=>v=sv
 |6=>v= nI nX i
 |7=>v= nI nX i
 |15=>v= nI nX i
 |16=>v= nI nX i
 |8=>v= nI nX (i+1)
 |17=>v= nI nX (i+1)
 |_=>True
structure OQ(w0:Wl)(b' i nk nv:Nat)(sv sk:Vl)(ks ks':List BY)(vs vs':List Vl)(d:Nat->Bool)(f:Nat->Vl)(w:Wl):Prop where
 chg:Chg w0 w (b'::(sk.ownBlock.toList++sv.ownBlock.toList))
 vals:∀j,d j=true->Ed b' i sv sk j (f j)
 o9:d 9=true->d 5=true
 o18:d 18=true->d 9=true/\d 14=true
 o21:d 21=true->d 18=true
 o25:d 25=true->d 21=true
 blk0:d 21=false->Ac w b' [sv,sk] 177
 blk1:d 21=true->d 25=false->Ac w b' [sv,f 9] 177
 blk2:d 25=true->Ac w b' [f 18,f 9] 177
 keys0:d 9=false->AK w sk 9 (Ad ks)
 items0:d 18=false->AK w sv 95 vs
 r9:d 9=true->∃g cap,f 9= nS (nM ⟨g,0,nN⟩) nk cap/\AK w (nS (nM ⟨g,0,nN⟩) nk cap) 9 (Ad ks')/\sk.ownBlock=nM g
 r18:d 18=true->∃g cap,f 18= nS (nM ⟨g,0,nN⟩) nv cap/\AK w (nS (nM ⟨g,0,nN⟩) nv cap) 95 vs'/\sv.ownBlock=nM g
section
variable {w0:Wl} {b' i nk nv:Nat} {sv sk:Vl} {ks ks':List BY} {vs vs':List Vl} {d:Nat->Bool} {f:Nat->Vl} {w w':Wl}
theorem OQ.vals'{j:Nat}{v:Vl}(h:OQ w0 b' i nk nv sv sk ks ks' vs vs' d f w)(b:Ed b' i sv sk j v):∀k,BA d j k=true->Ed b' i sv sk k (Eb f j v k):=fun k a=>by
 by_cases e:k=j
 .subst e;rw[Bf];exact b
 .rw[AA f v e];rw[An d e]at a;exact h.vals k a
theorem OQ.plain{j:Nat}{v:Vl}(h:OQ w0 b' i nk nv sv sk ks ks' vs vs' d f w)(o:9≠j)(n:18≠j)(s:21≠j)(t:25≠j)(r:Ed b' i sv sk j v)(a:Chg w w' []):OQ w0 b' i nk nv sv sk ks ks' vs vs' (BA d j) (Eb f j v) w':=by
 have up:∀k,d k=true->BA d j k=true:=fun k q=>by unfold BA;split;rfl;exact q
 refine⟨h.chg.trans (a.none _),h.vals' r, ?_, ?_, ?_, ?_, ?_, ?_, ?_, ?_, ?_, ?_, ?_⟩<;>simp only[An d o,An d n,An d s,An d t,AA f v o,AA f v n]
 .exact fun e=>up 5 (h.o9 e)
 .exact fun e=>⟨(h.o18 e).1,up 14 (h.o18 e).2⟩
 .exact h.o21
 .exact h.o25
 .exact fun e=>(h.blk0 e).kept a
 .exact fun e p=>(h.blk1 e p).kept a
 .exact fun e=>(h.blk2 e).kept a
 .exact fun e=>(h.keys0 e).kept a
 .exact fun e=>(h.items0 e).kept a
 .exact fun e=>by obtain⟨g,c,b,l,m⟩:=h.r9 e;exact⟨g,c,b,l.kept a,m⟩
 .exact fun e=>by obtain⟨g,c,b,l,m⟩:=h.r18 e;exact⟨g,c,b,l.kept a,m⟩
theorem OQ.call9{g b:Nat}(q:Nh w0 b' sv sk)(h:OQ w0 b' i nk nv sv sk ks ks' vs vs' d f w)(p:d 9=false)(s:d 5=true)(v:AK w' (nS (nM ⟨g,0,nN⟩) nk b) 9 (Ad ks'))(l:Chg w w' sk.ownBlock.toList)(x:sk.ownBlock=nM g):
  OQ w0 b' i nk nv sv sk ks ks' vs vs' (BA d 9) (Eb f 9 (nS (nM ⟨g,0,nN⟩) nk b)) w':=by
 have n:∀k,k≠9->BA d 9 k=d k:=fun k o=>An d o
 have m:∀k,k≠9->Eb f 9 (nS (nM ⟨g,0,nN⟩) nk b) k=f k:=fun k o=>AA f _ o
 have c:d 18=false:=by cases e:d 18 with
  |false=>rfl
  |true=>rw[(h.o18 e).1]at p;cases p
 have j:d 21=false:=by cases e:d 21 with
  |false=>rfl
  |true=>rw[h.o21 e]at c;cases c
 have r:d 25=false:=by cases e:d 25 with
  |false=>rfl
  |true=>rw[h.o25 e]at j;cases j
 have t:b'∉sk.ownBlock.toList:=fun a=>(q.lk b' (by simpa using a)).2.1 rfl
 refine⟨h.chg.trans (l.mono fun _ _ a=>Qg _ (Qe _ a)),h.vals' (by simp[Ed]), ?_, ?_, ?_, ?_, ?_, ?_, ?_, ?_, ?_, ?_, ?_⟩<;>simp only[n 5 ZM,n 14 ZM,n 18 ZM,n 21 ZM,n 25 ZM,m 18 ZM,BG,Bf]
 .exact fun _=>s
 .rw[c];intro e;cases e
 .exact h.o21
 .exact h.o25
 .exact fun e=>(h.blk0 e).kept l t
 .rw[j];intro e;cases e
 .rw[r];intro e;cases e
 .intro e;cases e
 .exact fun e=>(h.items0 e).kept l (fun y u a=>(q.lk y (by simpa using a)).2.2 u)
 .exact fun _=>⟨g,b,rfl,v,x⟩
 .rw[c];intro e;cases e
theorem OQ.call18{g b:Nat}(q:Nh w0 b' sv sk)(h:OQ w0 b' i nk nv sv sk ks ks' vs vs' d f w)(p:d 18=false)(j:d 9=true)(v:d 14=true)(A:AK w' (nS (nM ⟨g,0,nN⟩) nv b) 95 vs')(l:Chg w w' sv.ownBlock.toList)(B:sv.ownBlock=nM g):
  OQ w0 b' i nk nv sv sk ks ks' vs vs' (BA d 18) (Eb f 18 (nS (nM ⟨g,0,nN⟩) nv b)) w':=by
 have n:∀k,k≠18->BA d 18 k=d k:=fun k o=>An d o
 have m:∀k,k≠18->Eb f 18 (nS (nM ⟨g,0,nN⟩) nv b) k=f k:=fun k o=>AA f _ o
 have c:d 21=false:=by cases e:d 21 with
  |false=>rfl
  |true=>rw[h.o21 e]at p;cases p
 have u:d 25=false:=by cases e:d 25 with
  |false=>rfl
  |true=>rw[h.o25 e]at c;cases c
 have x:b'∉sv.ownBlock.toList:=fun a=>(q.lv b' (by simpa using a)).2 rfl
 obtain⟨gk,t,C,D,s⟩:=h.r9 j;have z:gk∉sv.ownBlock.toList:=fun a=>(q.lk gk s).2.2 (by simpa using a)
 refine⟨h.chg.trans (l.mono fun _ _ a=>Qg _ (Qd _ a)),h.vals' (by simp[Ed]), ?_, ?_, ?_, ?_, ?_, ?_, ?_, ?_, ?_, ?_, ?_⟩<;>simp only[n 5 ZM,n 9 ZM,n 14 ZM,n 21 ZM,n 25 ZM,m 9 ZM,BG,Bf]
 .exact h.o9
 .exact fun _=>⟨j,v⟩
 .exact fun _=>trivial
 .exact h.o25
 .exact fun e=>(h.blk0 e).kept l x
 .rw[c];intro e;cases e
 .rw[u];intro e;cases e
 .rw[j];intro e;cases e
 .intro e;cases e
 .exact fun _=>⟨gk,t,C,D.kept l (fun y r a=>by simp[Vl.ownBlock]at r;subst r;exact z a),s⟩
 .exact fun _=>⟨g,b,rfl,A,B⟩
theorem OQ.store21(h:OQ w0 b' i nk nv sv sk ks ks' vs vs' d f w)(q:Nh w0 b' sv sk)(g:d 21=false)(b:d 18=true):OQ w0 b' i nk nv sv sk ks ks' vs vs' (BA d 21) (Eb f 21 undef) (w.setCell ⟨b',1,nN⟩ (f 9)):=by
 have n:∀k,k≠21->BA d 21 k=d k:=fun k l=>An d l
 have m:∀k,k≠21->Eb f 21 undef k=f k:=fun k l=>AA f _ l
 have v:d 25=false:=by cases e:d 25 with
  |false=>rfl
  |true=>rw[h.o25 e]at g;cases g
 have p:=(h.o18 b).1;have j:Chg w (w.setCell ⟨b',1,nN⟩ (f 9)) [b']:=(Chg.refl w [b']).setCell _ _ Zh;obtain⟨gk,t,A,B,s⟩:=h.r9 p;obtain⟨c,u,x,z,r⟩:=h.r18 b;have C:gk≠b':=(q.lk gk s).2.1;have D:c≠b':=(q.lv c r).2;refine⟨h.chg.trans (j.mono fun _ _ a=>by simp at a;simp[a]),h.vals' (by simp[Ed]), ?_, ?_, ?_, ?_, ?_, ?_, ?_, ?_, ?_, ?_, ?_⟩<;>simp only[n 5 ZM,n 9 ZM,n 14 ZM,n 18 ZM,n 25 ZM,m 9 ZM,m 18 ZM,BG]
 .exact h.o9
 .exact h.o18
 .exact fun _=>b
 .exact fun _=>trivial
 .intro e;cases e
 .exact fun _ _=>(h.blk0 g).set 1 (f 9)
 .rw[v];intro e;cases e
 .rw[p];intro e;cases e
 .rw[b];intro e;cases e
 .exact fun _=>⟨gk,t,A,B.kept j (fun y o a=>by simp[Vl.ownBlock]at o a;omega),s⟩
 .exact fun _=>⟨c,u,x,z.kept j (fun y o a=>by simp[Vl.ownBlock]at o a;omega),r⟩
theorem OQ.store25(h:OQ w0 b' i nk nv sv sk ks ks' vs vs' d f w)(q:Nh w0 b' sv sk)(v:d 25=false)(b:d 21=true):OQ w0 b' i nk nv sv sk ks ks' vs vs' (BA d 25) (Eb f 25 undef) (w.setCell ⟨b',0,nN⟩ (f 18)):=by
 have n:∀k,k≠25->BA d 25 k=d k:=fun k l=>An d l
 have m:∀k,k≠25->Eb f 25 undef k=f k:=fun k l=>AA f _ l
 have g:=h.o21 b;have p:=(h.o18 g).1;have j:Chg w (w.setCell ⟨b',0,nN⟩ (f 18)) [b']:=(Chg.refl w [b']).setCell _ _ Zh;obtain⟨gk,t,A,B,s⟩:=h.r9 p;obtain⟨c,u,x,z,r⟩:=h.r18 g;have C:gk≠b':=(q.lk gk s).2.1;have D:c≠b':=(q.lv c r).2;refine⟨h.chg.trans (j.mono fun _ _ a=>by simp at a;simp[a]),h.vals' (by simp[Ed]), ?_, ?_, ?_, ?_, ?_, ?_, ?_, ?_, ?_, ?_, ?_⟩<;>simp only[n 5 ZM,n 9 ZM,n 14 ZM,n 18 ZM,n 21 ZM,m 9 ZM,m 18 ZM,BG]
 .exact h.o9
 .exact h.o18
 .exact h.o21
 .exact fun _=>b
 .rw[b];intro e;cases e
 .intro _ e;cases e
 .exact fun _=>(h.blk1 b v).set 0 (f 18)
 .rw[p];intro e;cases e
 .rw[g];intro e;cases e
 .exact fun _=>⟨gk,t,A,B.kept j (fun y o a=>by simp[Vl.ownBlock]at o a;omega),s⟩
 .exact fun _=>⟨c,u,x,z.kept j (fun y o a=>by simp[Vl.ownBlock]at o a;omega),r⟩
end
theorem Ih{w:Wl}:∀{l:List Tr} {vs:List Vl} {bs:List Nat},PsAt w l vs bs->∀u∈vs,∃t x,u= nF t x
 |[],_,_,h,u,a=>by simp only[PsAt]at h;obtain⟨rfl,_⟩:=h;cases a
 |t::l,_,_,h,u,a=>by
  simp only[PsAt]at h;obtain⟨v,r,d,e,rfl,b,c,_⟩:=h
  rcases Qh.1 a with rfl|a
  .exact b.iface
  .exact Ih c u a
def OP(w b:Wl)(W:Nat)(e u:Tr)(v f:Vl)(bs cs:List Nat):Prop:=
 ∃d c,AP b u f d/\AP b e v c/\(∀a,(W::(d++c)).count a<=(W::bs).count a)/\Chg w b cs/\(∀y,y∈cs->y∈bs)/\W∉cs
theorem Wo{w i:Wl}{W g c n pi:Nat}{t u:Tr}{v uv E:Vl}{bs p rest:List Nat}{D:List BY}{s:BY}{l:List Tr}{d:Nat}{vs:List Vl}{e:List Nat}(P:Hu w W t v uv bs)(r:Ir w t v bs D (.list l) (Jn d) p rest)(M:Sy w l d (nS (nM ⟨g,0,nN⟩) vs.length c) vs e)(Q:p=d::((Vl.slice (nM ⟨g,0,nN⟩) vs.length c).ownBlock.toList++e))(z:(W::bs).Nodup)(V:l[pi]? =nM u)(X:vs[pi]? =nM E)(hcut:CT s (.list l)= .list (l.eraseIdx pi))(k:Chg w i [d,g])(N:Ac i d [nS (nM ⟨g,0,nN⟩) n c] 107)(O:AK i (nS (nM ⟨g,0,nN⟩) n c) 95 (vs.eraseIdx pi)):
  OP w i W (Bz (CT s) t D) u v E bs [d,g]:=by
 have R:=List.nodup_iff_count.1 z;have C:=r.perm;subst Q;have B:=fun a=>C.count_eq a
 have x:=AP.lt _ _ _ P.at_;have o:∀y,y∈(d::((Vl.slice (nM ⟨g,0,nN⟩) vs.length c).ownBlock.toList++e))++rest->y∈bs:=fun y b=>C.mem_iff.2 b
 have A:∀y,y∈[d,g]->y∈bs:=fun y b=>o y (by simp only[Qh,List.not_mem_nil,or_false]at b;rcases b with h|h<;>subst h<;>simp[Vl.ownBlock])
 have T:([d,g]++(e++rest)).Nodup:=by
  rw[List.nodup_iff_count];intro a;have f:=R a;have j:=B a;simp only[List.count_cons,List.count_append,Vl.ownBlock,Option.toList_some,List.count_nil]at f j|-;omega
 have q:∀y,y∈e++rest->y∉[d,g]:=fun y b m=>Cd T m b
 have S:Ca e w i:=k.sameB (fun y b=>x y (o y (by simp only[Qh,Qf];exact .inl (.inr (.inr b))))) (fun y b=>q y (Qe _ b));have U:Ca rest w i:=k.sameB (fun y b=>x y (o y (Qd _ b))) (fun y b=>q y (Qd _ b));obtain⟨ab,J,aa,f,j,K,L⟩:=M.erase V N O S;rw[X]at f
 injection f with f
 subst f;obtain⟨I,Y,Z⟩:=r.back (CT s) _ _ (by rw[hcut];exact K.pat) U;refine⟨J,I,j,Y,fun a=> ?_,k,A,fun m=> ?_⟩
 .have F:=Z.count_eq a;have G:=B a;have H:=L.count_eq a
  simp only[List.count_cons,List.count_append,Vl.ownBlock,Option.toList_some,List.count_nil]at F G H|-;omega
 .exact(List.nodup_cons.1 z).1 (A W m)
theorem Wp{w e:Wl}{W d j I gk i H pi x r:Nat}{t u:Tr}{v uv J:Vl}{bs q rest:List Nat}{G:List BY}{s:BY}{ks:List BY}{l:List Tr}{c:Nat}{vs:List Vl}{f:List Nat}{m:Nat}(V:Hu w W t v uv bs)(A:Ir w t v bs G (.obj ks l) (IR c) q rest)(R:PS w ks l c (nS (nM ⟨d,0,nN⟩) vs.length j) (nS (nM ⟨gk,0,nN⟩) m i) vs f)(X:q=c::((Vl.slice (nM ⟨d,0,nN⟩) vs.length j).ownBlock.toList++((Vl.slice (nM ⟨gk,0,nN⟩) m i).ownBlock.toList++f)))(C:(W::bs).Nodup)(hu:l[pi]? =nM u)(ad:vs[pi]? =nM J)(hcut:CT s (.obj ks l)= .obj (ks.eraseIdx pi) (l.eraseIdx pi))(n:Chg w e [c,gk,d])(S:Ac e c [nS (nM ⟨d,0,nN⟩) I x,nS (nM ⟨gk,0,nN⟩) H r] 177)(U:AK e (nS (nM ⟨d,0,nN⟩) I x) 95 (vs.eraseIdx pi))(T:AK e (nS (nM ⟨gk,0,nN⟩) H r) 9 (Ad (ks.eraseIdx pi))):
  OP w e W (Bz (CT s) t G) u v J bs [c,gk,d]:=by
 have Y:=List.nodup_iff_count.1 C;have F:=A.perm;subst X;have E:=fun a=>F.count_eq a
 have B:=AP.lt _ _ _ V.at_;have p:∀y,y∈(c::((Vl.slice (nM ⟨d,0,nN⟩) vs.length j).ownBlock.toList++((Vl.slice (nM ⟨gk,0,nN⟩) m i).ownBlock.toList++f)))++rest->y∈bs:=fun y b=>F.mem_iff.2 b
 have D:∀y,y∈[c,gk,d]->y∈bs:=fun y b=>p y (by simp only[Qh,List.not_mem_nil,or_false]at b;rcases b with h|h|h<;>subst h<;>simp[Vl.ownBlock])
 have aa:([c,gk,d]++(f++rest)).Nodup:=by
  rw[List.nodup_iff_count];intro a;have g:=Y a;have k:=E a;simp only[List.count_cons,List.count_append,Vl.ownBlock,Option.toList_some,List.count_nil]at g k|-;omega
 have z:∀y,y∈f++rest->y∉[c,gk,d]:=fun y b o=>Cd aa o b
 have Z:Ca f w e:=n.sameB (fun y b=>B y (p y (by simp only[Qh,Qf];exact .inl (.inr (.inr (.inr b)))))) (fun y b=>z y (Qe _ b));have ab:Ca rest w e:=n.sameB (fun y b=>B y (p y (Qd _ b))) (fun y b=>z y (Qd _ b));obtain⟨af,O,ae,g,k,P,Q⟩:=R.erase hu S U T Z;rw[ad]at g
 injection g with g
 subst g;obtain⟨N,k1,k2⟩:=A.back (CT s) _ _ (by rw[hcut];exact P.pat) ab;refine⟨O,N,k,k1,fun a=> ?_,n,D,fun o=> ?_⟩
 .have K:=k2.count_eq a;have L:=E a;have M:=Q.count_eq a
  simp only[List.count_cons,List.count_append,Vl.ownBlock,Option.toList_some,List.count_nil]at K L M|-;omega
 .exact(List.nodup_cons.1 C).1 (D W o)
end
section
open _root_.Go.Proofs.Tryz
open Go Go.Shelf Go.RowKit Go.Lib Tree Ptr
theorem Hh{P:Program}{c:Func}{p q:Tmp}{b:Ti}(h:c.results=#[.tmp q,.cell p b])(a:Array Vl)(w:Wl)(g:Nat)(T:Ti)(cs:List Vl)(d:TypeDesc)(i:a.getD p undef= nP (nM ⟨g,0,nN⟩))(e:Ac w g cs T)(l:P.underlying b=nM d)(f:(match d with| .struct _| .array _ _=>true|_=>false)=true)(hi:(P.info? b).map (·.size)=nM cs.length):
  (results c a).run P w= .ok (nT #[a.getD q undef,nA cs.toArray]) w:=by
 have j:a[p]?.getD undef= nP (nM ⟨g,0,nN⟩):=by simpa using i
 have k:=run_loadVar_row (P:=P) w g T b cs.toArray (0,0) d e l f (by simpa using hi);simp[results,h,j,asAddr,k]
def T6(W:Nat)(h:Vl)(d:List Nat)(g u:Tr)(o:Bq)(w:Wl)(e:Ending)(w':Wl):Prop:=
 ∃f c i a sv ys G,e= nR (nT #[f,nA (BJ o sv).toArray])/\Dr w w' o sv ys G/\AP w' u f c/\Hu w' W g i h a/\DJ w d (W::(c++a))/\Chg w w' d/\∀b,b∈W::(c++a)->¬G b
def EC(W:Nat)(b:Vl)(a:List Nat)(t:Tr)(ts:List BY)(w:Wl)(e:Ending)(w':Wl):Prop:=match Ah t ts with
 |none=>AZ 4 a w e w'
 |some u=>T6 W b a (A8 t ts) u (AC 1 ts (Ai u)) w e w'
theorem JE{W:Nat}{b:Vl}{a:List Nat}{t:Tr}{ts:List BY}{w:Wl}(h:Ah t ts=nN):EC W b a t ts w=AZ 4 a w:=by
 funext e w';unfold EC;rw[h]
theorem JF{W:Nat}{b:Vl}{a:List Nat}{t u:Tr}{ts:List BY}{w:Wl}(h:Ah t ts=nM u):EC W b a t ts w=T6 W b a (A8 t ts) u (AC 1 ts (Ai u)) w:=by
 funext e w';unfold EC;rw[h]
structure UI(W:Nat)(t:Tr)(v uv:Vl)(bs:List Nat)(F:Nat->Prop)(sl:Vl)(ts:List BY)(w:Wl):Prop where
 laid:Br w
 wat:Hu w W t v uv bs
 tat:JC w F sl ts
 nodup:(W::bs).Nodup
 big:∀b,b∈W::bs->10<=b
 apart:∀b,b∈W::bs->¬F b
theorem JH(t:Tr)(a:List BY)(s:BY):A8 t (a++[s])=Bz (CT s) t a:=by
 unfold A8;rw[List.dropLast_concat,BE]
theorem RJ(W:Nat)(t:Tr)(v m:Vl)(bs:List Nat)(F:Nat->Prop)(a:Option Addr)(n c:Nat)(ts:List BY)(w:Wl)(l:List Nat)(d:Br w)(g:Hu w W t v m bs)(f:JC w F (nS a n c) ts)(i:Ah t ts=nN):
  Cl prog 167 #[nP (nM ⟨W,0,nN⟩),nS a n c] w (AZ 4 l w):=by
 have k:=hZ (Im d g f i);clear d g f i;go_enter func167,ntmps167
 go_wp2_with(first
  |(go_at_call 170;refine(k.o _ (by exact cg cR)).mono ?_;rintro e o ⟨h,b⟩;unfold By at h;subst h;have j:=UD (Chg w o []) (ct cR b);clear b))
 exact⟨rfl,rfl,j.o.none _⟩
theorem RI(W:Nat)(t u:Tr)(v uv:Vl)(bs:List Nat)(F:Nat->Prop)(a:Option Addr)(c:Nat)(p:List BY)(s:BY)(w:Wl)(l:List Tr)(h:UI W t v uv bs F (nS a (p.length+1) c) (p++[s]) w)(O:Ah t p=nM (.list l))(an:Dy (.list l) s=nM u):
  Cl prog 167 #[nP (nM ⟨W,0,nN⟩),nS a (p.length+1) c] w (EC W uv (W::bs) t (p++[s]) w):=by
 obtain⟨pi,Y,hu⟩:=Rd an;have ao:p++[s]≠[]:=Zh
 have X:Ah t (p++[s])=nM u:=by rw[BW,O];exact an
 obtain⟨b,o,rfl,af,aD,a7,bm,bn,a3⟩:=h.tat.last;have lb:=h.tat.lt b af;obtain⟨tv,xv,rfl⟩:=h.wat.at_.iface;obtain⟨vp,bp,rest,K⟩:=EU h.wat.at_ _ p _ rfl O;obtain⟨n,sv,vs,fs,rfl,z,U⟩:=K.at_.list;have a6:l.length<=65536:=by have:=(h.wat.fine.lead O).many;simp only[Ab]at this;omega
 have ba:pi<l.length:=Jf Y;obtain⟨vu,bu,Z,aq,aZ⟩:=z.at_.get hu;obtain⟨_,_,_,_,be,bg,r2,_,C,q6,q7,aF⟩:=Fx K.at_ (s:=s) (by simp only[D6];exact Y) hu;have aG:=K.snoc aF;obtain⟨Q,R,rfl⟩:=aq.iface;have aM:=z.at_.length
 obtain⟨g,r,rfl,bj⟩:∃g r,sv= nS (nM ⟨g,0,nN⟩) vs.length r/\vs.length<=r:=by
  rcases z.lst.one with⟨_,e⟩|h
  .rw[e]at Z;simp at Z
  .exact h
 have bb:be= nF Q R:=by
  unfold Jn at C
  injection C with _ C
  injection C with C
  injection C with C
  injection C with C
  subst C;have A:=z.blk.cell 0;simp only[Qa]at A;rw[q6]at A
  injection A with A
  injection A with A
  injection A with A
  injection A with A
  subst A;have e7:=z.lst.cell rfl pi _ Z;rw[q7]at e7;injection e7
 subst bb;have V:=h.wat.fine.lead X;have aK:=Ar h.wat.fine.fits;have aL:=Ar V.fits;obtain⟨q1,q2⟩:=R9 h.wat.fine ao X (by rw[List.dropLast_concat];exact O);have q2:(Ag (A8 t (p++[s]))).bytes+(Ag u).bytes+0=(Ag t).bytes:=q2;have aE:Bt (A8 t (p++[s])):=h.wat.fine.cut ao X;have a5:(p++[s]).length=p.length+1:=Zh
 have aA:=hZ (Dl h.laid h.wat h.tat aG);have ad:=hZ (Ud h.laid h.wat h.tat.init K);unfold Jn at ad;have ay:=UD (∀q,Chg w q []->JB (nF Q R) (Ag u) q) fun q L=>MD _ u _ bu q (Q8 _) V.good V.fits (aq.chg L Zh)
 have aj:∀y,y∈bp->y∈bs:=fun y k=>K.perm.mem_iff.2 (Qe _ k)
 have al:g∈bs:=aj g (by rw[U];simp[Vl.ownBlock]);have ak:n∈bs:=aj n (by rw[U];simp);have ah:W∉bs:=(List.nodup_cons.1 h.nodup).1
 have aI:g≠n:=fun e=>by
  have I:=List.nodup_iff_count.1 h.nodup g;have D:=K.perm.count_eq g;rw[U,<-e]at D;simp only[List.count_cons,List.count_append,Vl.ownBlock,Option.toList_some,List.count_nil]at I D;simp at I D;omega
 have am:∀y,y∈[W,n,g]->y∈W::bs:=fun y k=>by simp at k;rcases k with rfl|rfl|rfl;simp;simp[ak];simp[al]
 have az:=UD (∀q H,Chg w q [W,n,g]->AP q u (nF Q R) H->Cl prog 196 #[nI nX 1,nS (nM ⟨b,o,nN⟩) (p.length+1) c,nF Q R] q (Et (AC 1 (p++[s]) (Ai u)) q)) fun q H L a9=>by
  have ht:=h.tat.kept L (fun y k=>h.apart y (am y k));exact DE 1 F _ (p++[s]) u _ H q (h.laid.kept L (fun y k=>h.big y (am y k))) ht.row ht.lt ht.ok ht.small V a9
 have c1:w.cell? ⟨n,0,nN⟩=nM (nS (nM ⟨g,0,nN⟩) vs.length r):=z.blk.cell 0;have a8:=z.at_.one;have aJ:∀y∈vs,∃t x,y= nF t x:=Ih z.at_
 have a4:pi<vs.length:=Zj
 have bo:vs.length<=65536:=Zj
 have aP:=UD (∀q,Chg w q []->Cl prog 149 #[nG s,nI nX vs.length] q (fun e w'=>e= nR (nT #[nI nX pi,.bool true])/\Chg q w' [])) fun q L=>by
  have:=Gl s l.length q (h.laid.kept L) Zj Zj;unfold Je at this;rw[Y]at this;rw[aM];exact this
 have aO:=UD (∀q,Chg w q []->Cl prog 203 #[nS (nM ⟨g,0,nN⟩) vs.length r,nI nX pi,nI nX (pi+1)] q (fun e w'=>e= nR (nS (nM ⟨g,0,nN⟩) (vs.length-1) r)/\AK w' (nS (nM ⟨g,0,nN⟩) (vs.length-1) r) 95 (vs.eraseIdx pi)/\Chg q w' [g])) fun q L=>
  NV g r pi vs q aJ (z.lst.kept L) a4
 have hcut:CT s (.list l)= .list (l.eraseIdx pi):=by
  unfold CT;simp only[D6,Y]
 have aR:=UD (∀wR,Chg w wR [n,g]->Ac wR n [nS (nM ⟨g,0,nN⟩) (vs.length-1) r] 107->AK wR (nS (nM ⟨g,0,nN⟩) (vs.length-1) r) 95 (vs.eraseIdx pi)->OP w wR W (Bz (CT s) t p) u (nF tv xv) (nF Q R) bs [n,g]) fun wR B J k3=>
  Wo h.wat K z U h.nodup hu Z hcut B J k3
 have bi:b≠W:=fun e=>h.apart W Zh (by rw[<-e];exact af)
 have aX:W≠n:=fun e=>ah (by rw[e];exact ak)
 have aY:W≠g:=fun e=>ah (by rw[e];exact al)
 have lW:=h.wat.blk.lt;have br:=z.blk.lt;have lg:=z.lst.lt (g:=g) rfl;have aC:=z.blk;have a0:∀(w:Wl),(Instr.typeAssert (nF 104 (nP (nM ⟨n,0,nN⟩))) 95 175 true).run prog w= .ok (nT #[nP nN,.bool false]) w:=fun _=>Yb
 have a1:∀(w:Wl),(Instr.typeAssert (nF 104 (nP (nM ⟨n,0,nN⟩))) 95 104 true).run prog w= .ok (nT #[nP (nM ⟨n,0,nN⟩),.bool true]) w:=fun _=>Yb
 have HH:=hZ h;have aw:=hZ h.wat.blk;have aQ:=hZ aC;have ax:=hZ aE;have M:=UD (((Ag (A8 t (p++[s]))).nodes:Int)=(Ag t).nodes-(Ag u).nodes/\((Ag (A8 t (p++[s]))).bytes:Int)=(Ag t).bytes-(Ag u).bytes) ⟨Zj,Zj⟩;rw[JF X];obtain⟨m,d⟩:=Ue p.length
 rw[<-d]at aA ad az aD a7 a3|-;obtain⟨N,hN⟩:=Ue ((Ag t).nodes)
 obtain⟨BB,ae⟩:=Ue ((Ag t).bytes)
 obtain⟨su,ar⟩:=Ue (Ag u)
 rw[<-hN,<-ae]at aw aK;rw[<-hN,<-ae,<-ar]at M;rw[<-ar]at ay aL;obtain⟨t1,t2,t3⟩:=aK;obtain⟨s1,s2,s3⟩:=aL;have t4:su.nodes<=N:=by have:=M.o.1;omega
 have t5:su.bytes<=BB:=by have:=M.o.2;omega
 clear h ao X K z Y hu Z aq V q1 q2 a5 d U aZ aM ba af O an aF aG aj am C q6 q7 aE a8 aJ hcut aC hN ae ar a6 ah al ak;go_enter func167,ntmps167
 go_wp2_with(first
  |(go_at_call 170;refine(aA.o _ (by exact cg cR)).mono ?_;rintro e w1 ⟨rfl,I⟩;have H1:=UD (Chg w w1 []) (ct cR I);have B1:=UD (Ac w1 w.heap.size Ef 42) ((Ac.new w Ef 42).kept I);obtain⟨f,args,P,B⟩:=ay.o w1 H1.o;have HM:=hZ P;have HC:=hZ B;clear I P B)
  |(refine Am rfl _ _ _ rfl _ rfl f args HM.o _ HC.o ?_;rintro e w2 ⟨rfl,D⟩;refine⟨_,rfl, ?_⟩;have H2:=UD (Chg w w2 []) (H1.o.trans D);have B2:=UD (Ac w2 w.heap.size Ef 42) (B1.o.kept D);unfold Jv;have e0:=H2.o.keeps aD;clear D)
  |(go_at_call 201;refine(ad.o _ (by exact cg H2.o)).mono ?_;rintro e w3 ⟨rfl,h3⟩;have H3:=UD (Chg w w3 []) (ct H2.o h3);have B3:=UD (Ac w3 w.heap.size Ef 42) (B2.o.kept h3);have d3:=H3.o.keeps c1;clear h3)
  |(go_at_call 149;refine(aP.o _ (by exact cg H3.o)).mono ?_;rintro e w4 ⟨rfl,h4⟩;have H4:=UD (Chg w w4 []) (ct H3.o h4);have B4:=UD (Ac w4 w.heap.size Ef 42) (B3.o.kept h4);have d4:=H4.o.keeps c1;clear h4)
  |(go_at_call 203;refine(aO.o _ (by exact cg H4.o)).mono ?_;rintro e E ⟨rfl,B,J⟩;have bf:=UD (Chg w4 E [g]) J;have H5:=UD (Chg w E [g]) ((H4.o.none _).trans J);have L5:=hZ B;have B5:=UD (Ac E w.heap.size Ef 42) (B4.o.kept J (by simp;omega));have aa:=hZ (aQ.o.kept H5.o (by simp;exact fun e=>aI e.symm));have d5:=aa.o.cell 0;have f5:∀j,E.frozen? ⟨n,j,nN⟩=false:=fun j=>aa.o.frozen j;have l5:=aa.o.lt;have T:=hZ (aw.o.kept H5.o (by simp;exact aY));have aU:=T.o.cell 1;have aV:=T.o.cell 2;have bh:∀j,E.frozen? ⟨W,j,nN⟩=false:=fun j=>T.o.frozen j;have bq:=T.o.lt;simp only[Qa,Qb]at d5 aU aV;clear B J)
  |(go_at_call 196;have aS:=hZ (aa.o.set 0 (nS (nM ⟨g,0,nN⟩) (vs.length-1) r));have av:=UD (Chg E (E.setCell ⟨n,0,nN⟩ (nS (nM ⟨g,0,nN⟩) (vs.length-1) r)) [n]) ((Chg.refl E [n]).setCell _ _ Zh);have L6:=hZ (L5.o.kept av.o (fun y k=>by simp[Vl.ownBlock]at k;subst k;simpa using aI));have H6:=UD (Chg w (E.setCell ⟨n,0,nN⟩ (nS (nM ⟨g,0,nN⟩) (vs.length-1) r)) [n,g]) ((H5.o.mono (fun _ _ d=>by simp at d;simp[d])).trans (av.o.mono (fun _ _ d=>by simp at d;simp[d])));obtain⟨H,ab,P,m2,au,m4,m5,m6⟩:=aR.o _ H6.o aS.o L6.o;have aT:=hZ au;have m3:DJ w (W::bs) (W::(H++ab)):=(DJ.refl HH.o.nodup).count au;have ai:W∉H++ab:=(List.nodup_cons.1 m3.nodup).1;have M1:=hZ P;have M2:=hZ m2;have M3:=hZ m3;have M5:=hZ m5;refine(az.o _ H (by exact((H6.o.mono (cs:=[W,n,g]) (fun _ _ d=>Qg _ d)).setCell _ _ Zh).setCell _ _ Zh) (by exact P.chg (cs:=[W]) (((Chg.refl _ [W]).setCell _ _ Zh).setCell _ _ Zh) (fun y k d=>by simp at k;subst k;exact ai (Qe _ d)))).mono ?_;clear P m2 m3 au m4 m5 m6;rintro e w6 h5;obtain⟨sv,ys,G,rfl,B,J⟩:=h5.at;have K1:=hZ B;have K2:=hZ J;obtain⟨sa,sc,rfl,_⟩:=B.row.form;clear h5 B J)
  |(refine Ae rfl _ _ _ rfl w.heap.size (BJ (AC 1 (p++[s]) (Ai u)) (nS sa (AC 1 (p++[s]) (Ai u)).steps.length sc)) ZN ZN 42 Ef (by exact(((B5.o.set_other _ _ (by simp only;omega)).set_other _ _ (by simp only;omega)).set_other _ _ (by simp only;omega)).kept K2.o) A0 rfl (Dx _ _ _ _) ?_;intro w7 bd aB aH;have aN:=hZ aB;have S:=hZ aH;clear bd aB aH))
 have bc:=H5.o.size;have ag:Chg (E.setCell ⟨n,0,nN⟩ (nS (nM ⟨g,0,nN⟩) (vs.length-1) r)) w6 [W]:=Chg.trans (b:=_) (((Chg.refl _ [W]).setCell _ _ Zh).setCell _ _ Zh) (K2.o.none _);have a2:Chg w w6 [W,n,g]:=(H6.o.mono (fun _ _ d=>Qg _ d)).trans (ag.mono (fun _ _ d=>by simp at d;simp[d]));have aW:Chg w w7 [W,n,g]:=a2.step S.o (fun i hi O=>by simp at hi;omega);have hk:=K1.o.kept (w0:=w) S.o (fun b N=>by simp at N;subst N;simpa using B5.o.lt) (by simpa using bc);have bl:=AP.lt _ _ _ M1.o;have bk:=AP.lt _ _ _ M2.o
 have ap:∀y,y∈W::(H++ab)->y<w.heap.size:=fun y k=>by
  have I:=List.count_pos_iff.2 k;have D:=aT.o y
  rcases Qh.1 (List.count_pos_iff.1 (Q6 I D))with h|h
  .omega
  .exact AP.lt _ _ _ HH.o.wat.at_ _ h
 refine bodyPost_ret (Hh rfl _ _ w.heap.size 42 (BJ (AC 1 (p++[s]) (Ai u)) (nS sa (AC 1 (p++[s]) (Ai u)).steps.length sc)) _ rfl aN.o underlying42 rfl A0) rfl ?_;rw[JH]at M ax|-;refine⟨nF Q R,H,nF tv xv,ab,_,ys,G,rfl,hk, ?_,⟨?_, ?_,ax.o⟩,M3.o,aW.mono (fun _ _ d=> ?_),fun b N hG=> ?_⟩
 .exact(M1.o.chg ag (fun y k d=>by simp at k;subst k;exact ai (Qe _ d))).chg S.o (fun y k d=>by simp at k;subst k;exact Nat.lt_irrefl _ (ap _ (Qg _ (Qe _ d))))
 .have e1:=M.o.1
  have e2:=M.o.2;have N:=(((T.o.set_other ⟨n,0,nN⟩ (nS (nM ⟨g,0,nN⟩) (vs.length-1) r) (by simp only;exact fun e=>aX e.symm)).set 1 (nI nX (N-su.nodes))).set 2 (nI nX (BB-su.bytes)));rw[e1,e2];exact(N.kept K2.o).kept S.o (by simp;omega)
 .exact(M2.o.chg ag (fun y k d=>by simp at k;subst k;exact ai (Qd _ d))).chg S.o (fun y k d=>by simp at k;subst k;exact Nat.lt_irrefl _ (ap _ (Qg _ (Qd _ d))))
 .simp at d
  rcases d with rfl|rfl|rfl
  .simp
  .exact Qg _ (M5.o _ Zh)
  .exact Qg _ (M5.o _ Zh)
 .have I:=(hk.new b hG).1
  have D:=ap b N;omega
end
end Go.Proofs.YtkfnkppdhcaeoaaGreatDoor

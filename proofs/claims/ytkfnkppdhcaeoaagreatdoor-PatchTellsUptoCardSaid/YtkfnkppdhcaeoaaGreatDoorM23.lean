/- Part 23 of the proof of coreBase. -/
import Derived.Test.YtkfnkppdhcaeoaaGreatDoorM22
set_option maxRecDepth 100000
set_option maxHeartbeats 32000000
set_option linter.all false
namespace Go.Proofs.YtkfnkppdhcaeoaaGreatDoor
open Go renaming Calls->Cl,TypeId->Ti,Value->Vl,World->Wl
section
open _root_.Go.Proofs.Tryz
open Go Go.Shelf Go.RowKit Go.Lib Tree Ptr
theorem Uk{ks:List BY}{l:List Tr}{s:BY}{u:Tr}(h:Dy (.obj ks l) s=some u):C4 ks s=true/\l[A5 ks s]? =some u:=by
 unfold Dy at h;simp only[D6]at h;by_cases a:C4 ks s=true
 .rw[Qr a]at h;exact⟨a,h⟩
 .rw[Qs a]at h;cases h
theorem Rd{l:List Tr}{s:BY}{u:Tr}(h:Dy (.list l) s=some u):∃i,bL s l.length=some i/\l[i]? =some u:=by
 unfold Dy at h;simp only[D6]at h
 cases hi:bL s l.length with
 |none=>rw[hi]at h;cases h
 |some i=>rw[hi]at h;exact⟨i,rfl,h⟩
theorem AP.head{w:Wl}{t:Tr}{b g n c:Nat}{j:Ti}{bs:List Nat}(h:AP w t (.iface j (.pointer (some ⟨b,0,none⟩))) bs)(hi:Ab t≠[])(d:w.cell? ⟨b,0,none⟩=some (.slice (some ⟨g,0,none⟩) n c)):b∈bs/\g∈bs:=by
 cases t with
 |list l=>
  obtain⟨f,sv,vs,i,e,a,rfl⟩:=h.list;unfold Jn at e
  injection e with _ e
  injection e with e
  injection e with e
  injection e with e
  subst e;have:=a.blk.cell 0;rw[d]at this;simp only[Qa]at this
  injection this with this
  subst this;simp[Vl.ownBlock]
 |obj ks l=>
  obtain⟨f,sv,sk,vs,i,e,a,rfl⟩:=h.obj;unfold IR at e
  injection e with _ e
  injection e with e
  injection e with e
  injection e with e
  subst e;have:=a.blk.cell 0;rw[d]at this;simp only[Qa]at this
  injection this with this
  subst this;simp[Vl.ownBlock]
 |_=>exact absurd rfl hi
theorem Dv.same{w w':Wl}:∀(ts:List BY) (t:Tr) (v k:Vl) (bs:List Nat),AP w t v bs->Ca bs w w'->Dv w t v ts k->Dv w' t v ts k
 |[],_,_,_,_,_,_,h=>h
 |s::r,t,v,k,bs,x,m,h=>by
  simp only[Dv]at h|-;obtain⟨i,u,b,g,n,c,z,H,o,j,B,l,p,C⟩:=h;obtain⟨I,L,M,J,O,A,rest,N,d,a,f,q⟩:=Fx x o j;subst B
  injection d with K d
  injection d with d
  injection d with d
  injection d with d
  subst d;rw[l]at a
  injection a with a
  injection a with a
  injection a with a
  injection a with a
  subst a;rw[p]at f
  injection f with f
  subst f;have F:Ab t≠[]:=by intro e;rw[e]at j;simp at j
  obtain⟨D,E⟩:=x.head F l;exact⟨i,u,b,g,n,c,z,H,o,j,rfl,(World.cell?_of_block (w:=w) (m b D)).trans l,(World.cell?_of_block (w:=w) (m g E)).trans p,Dv.same r u z k A q.at_ (m.mono fun y G=>q.perm.mem_iff.2 (Qe _ G)) C⟩
theorem bG(W:Nat)(t x u:Tr)(v X vx:Vl)(bs Z:List Nat)(F:Nat->Prop)(a:Option Addr)(c:Nat)(d:List BY)(s:BY)(w:Wl)(ks:List BY)(l:List Tr)(h:Sx W t x v X vx bs Z F (.slice a (d.length+1) c) (d++[s]) w)(M:Ah t d=some (.obj ks l))(am:Dy (.obj ks l) s=some u):
  Cl prog 168 #[.pointer (some ⟨W,0,none⟩),.slice a (d.length+1) c,vx] w (Du W X (W::(Z++bs)) t x (d++[s]) w):=by
 obtain⟨I,V⟩:=Uk am;have aG:d++[s]≠[]:=Zh
 have N:Ah t (d++[s])=some u:=by rw[BW,M];exact am
 have az:=(T9 (x:=x) (ts:=d++[s]) h.wat.fine aG (by rw[List.dropLast_concat];exact M) (by rw[BE];exact I)).1;obtain⟨b,o,rfl,ak,ax,aF,aT,a9,aP⟩:=h.tat.last;have lb:=h.tat.lt b ak;obtain⟨tx,xx,rfl⟩:=h.xat.iface;obtain⟨tv,xv,rfl⟩:=h.wat.at_.iface;obtain⟨vp,bp,rest,H⟩:=EU h.wat.at_ _ d _ rfl M;obtain⟨K,sv,sk,vs,fs,rfl,z,L⟩:=H.at_.obj;have ad:=(h.wat.fine.lead M).good;have aI:=Dk (Cp.1 I);have ar:=S0 (s:=s) z ad.1 aT a9 I;obtain⟨pi,U⟩:=Ue (A5 ks s)
 rw[<-U]at ar aI V;have aS:pi<l.length:=by have:=ad.2.1;omega
 obtain⟨vu,bu,ag,ae,av⟩:=z.at_.get V;obtain⟨_,_,_,_,aX,a1,r2,_,B,q6,q7,aC⟩:=Fx H.at_ (s:=s) (by simp only[D6];rw[Qr I,<-U]) V;have aD:=H.snoc aC;obtain⟨tu,xu,rfl⟩:=ae.iface;have aV:=z.at_.length
 obtain⟨g,c',rfl,be⟩:∃g c',sv= .slice (some ⟨g,0,none⟩) vs.length c'/\vs.length<=c':=by
  rcases z.lst.one with⟨_,e⟩|h
  .rw[e]at ag;simp at ag
  .exact h
 have ba:aX= .iface tu xu:=by
  unfold IR at B
  injection B with _ B
  injection B with B
  injection B with B
  injection B with B
  subst B;have C:=z.blk.cell 0;simp only[Qa]at C;rw[q6]at C
  injection C with C
  injection C with C
  injection C with C
  injection C with C
  subst C;have e7:=z.lst.cell rfl pi _ ag;rw[q7]at e7;injection e7
 subst ba;have ab:=h.wat.fine.lead N;have aU:=Ar h.xfine.fits;have an:=Ar h.wat.fine.fits;obtain⟨q1,q2,q3⟩:=J4 (x:=x) h.wat.fine N;have af:=KC (x:=x) h.wat.fine N;have aJ:KT w (.iface tu xu) (Ag u).nodes (Ag u).bytes:= .inr ⟨u,bu,ae,ab.good,ab.fits,rfl,rfl⟩;have aE:(d++[s]).length=d.length+1:=Zh
 rw[aE]at af
 have Q:=UD (∀q,Chg w q []->Cl prog 195 #[.pointer (some ⟨W,0,none⟩),.slice (some ⟨b,o,none⟩) (d.length+1) c,.iface tx xx,.iface tu xu,.int .i64 0] q (Dh W (.iface tv xv) X (Ag (AE t (d++[s]) x)).nodes (Ag (AE t (d++[s]) x)).bytes (d.length+1+(Ag x).depth) q)) fun q E=>
  Jl W _ X _ _ x _ _ Z _ _ _ _ 0 _ _ c q (h.wat.blk.kept E) (h.xat.chg E Zh) h.xfine.good h.xfine.fits (aJ.kept E) an.1 an.2.1 Zj aF q1 Zj
 have ai:=hZ (Dl h.laid h.wat h.tat aD)
 have aw:∀y,y∈bu->y≠W/\y≠g:=fun y k=>by
  have bb:=av y k;have ay:=List.nodup_iff_count.1 h.nodup y;have aH:=H.perm.count_eq y;rw[L]at aH;have r:=List.count_pos_iff.2 bb;simp only[List.count_cons,List.count_append,Vl.ownBlock,Option.toList_some,List.count_nil]at ay aH
  constructor
  .intro e;subst e;simp at ay;omega
  .intro e;subst e;simp at ay aH;omega
 have al:∀y,y∈bp->y∈bs:=fun y k=>H.perm.mem_iff.2 (Qe _ k)
 have aR:g∈bs:=al g (by rw[L];simp[Vl.ownBlock])
 have aa:W∉bp:=fun f=>by
  have:=al W f;have hn:=h.nodup;simp[this]at hn
 have T:∀y,y∈[W,g]->y∈W::(Z++bs):=fun y k=>by simp at k;rcases k with rfl|rfl;simp;simp[aR]
 have aq:=UD (∀q,Chg w q [W,g]->Cl prog 196 #[.int .i64 3,.slice (some ⟨b,o,none⟩) (d.length+1) c,.iface tu xu] q (Et (AC 3 (d++[s]) (Ai u)) q)) fun q E=>by
  have ht:=h.tat.kept E (fun y k=>h.apart y (T y k));exact DE 3 F _ (d++[s]) u _ bu q (h.laid.kept E (fun y k=>h.big y (T y k))) ht.row ht.lt ht.ok ht.small ab (ae.chg E (fun y k f=>by simp at k;have:=aw y f;omega))
 have c1:w.cell? ⟨K,0,none⟩=some (.slice (some ⟨g,0,none⟩) vs.length c'):=z.blk.cell 0
 have au:=UD (∀n,Chg w n [W]->∃aj,AP (n.setCell ⟨g,pi,none⟩ (.iface tx xx)) (Bz (Cj s x) t d) (.iface tv xv) aj/\DJ n (W::(Z++bs)) (W::aj)/\(∃v0,n.cell? ⟨g,pi,none⟩=some v0)/\(∀j,n.frozen? ⟨g,j,none⟩=false)/\g∈bs/\g∉rest) fun n S=>
  Uv h.wat H z L h.nodup h.xat V I U S
 have HH:=hZ h;have aO:K≠W:=fun e=>aa (by rw[L,<-e];simp)
 have a5:g≠W:=fun e=>aa (by rw[L,<-e];simp[Vl.ownBlock])
 have lW:=h.wat.blk.lt;have lg:=z.lst.lt (g:=g) rfl;have bd:=z.blk.lt;have bf:pi<vs.length:=Zj
 have ap:=UD (∀n,Ac n W [.iface tv xv,.int .i64 (Ag (AE t (d++[s]) x)).nodes,.int .i64 (Ag (AE t (d++[s]) x)).bytes,X] 98->Chg w n [W]->Cl prog 201 #[.pointer (some ⟨W,0,none⟩),.slice (some ⟨b,o,none⟩) d.length c] n (fun e w'=>e= .returned (.tuple #[IR K,.bool true])/\Chg n w' [])) fun n D S=>by
  have hi:=h.tat.init.kept S (fun y k=>h.apart y (T y (by simp at k;simp[k])));have a7:AP n t (.iface tv xv) bs:=h.wat.at_.chg S (fun y k f=>by simp at k;subst k;have hn:=h.nodup;simp[f]at hn);have a8:Ca bs w n:=S.sameB (AP.lt _ _ _ h.wat.at_) (fun y k f=>by simp at f;subst f;have hn:=h.nodup;simp[k]at hn);have:=LJ W t _ _ _ X bs F _ d n (h.laid.kept S (fun y k=>h.big y (T y (by simp at k;simp[k])))) D a7 h.wat.fine hi.row hi.ok hi.small Zj;rw[Iv M]at this;refine this.mono fun e w' ⟨r,aX,a1,bi,h2,R⟩=>⟨?_,r⟩
  rw[h2,(Dv.same d t _ _ bs h.wat.at_ a8 H.reach).inj R.reach]
 have aM:=UD (∀q,Chg w q [W]->Cl prog 197 #[.pointer (some ⟨K,0,none⟩),.string s] q (fun e w'=>e= .returned (.tuple #[.int .i64 pi,.bool true])/\Chg q w' [])) fun q E=>
  (Pl ks s K _ sk q (z.blk.kept E (fun f=>by simp at f;exact aO f)) (z.keys.kept E (fun y k f=>by simp at f;subst f;exact aa (by rw[L];simp[k]))) ad.1 aT Zj).mono fun e w' ⟨i,r,h2,R,_⟩=>⟨by rw[r,I,(R.yes I).1,U],h2⟩
 have a3:b≠W:=fun e=>h.apart W Zh (by rw[<-e];exact ak)
 have a0:OS prog (.iface 175 (.pointer (some ⟨K,0,none⟩))) 95 175 #[.pointer (some ⟨K,0,none⟩),.bool true]:=fun _=>Yb
 have aA:Bz (Cj s x) t d=AE t (d++[s]) x:=by rw[<-E3,az]
 rw[aA]at au;have aB:(Ag (AE t (d++[s]) x)).within=true->Bt (AE t (d++[s]) x):=fun J=>h.wat.fine.set h.xfine N J
 by_cases J:(Ag (AE t (d++[s]) x)).within=true
 .rw[Pr N J]
  rw[En (by rw[af];exact J)]at Q;have aZ:=hZ (aB J);obtain⟨m,f⟩:=Ue d.length
  rw[<-f]at ai Q aq ap ax aF aP|-;clear h aG az N H z ad aI ar U V ag ae ab aU an q1 q2 q3 af aJ aE f J L av aw aV aS aB ak M I am aC aD al aa T aA B q6 q7;go_enter func168,ntmps168
  go_wp2_with(first
   |(go_at_call 170;refine(ai.o _ (by exact cg cR)).mono ?_;rintro e w1 ⟨rfl,r⟩;have Y:=UD (Chg w w1 []) (ct cR r);have B1:=UD (Ac w1 w.heap.size Ef 42) ((Ac.new w Ef 42).kept r);clear r)
   |(go_at_call 195;refine(Q.o _ (by exact cg Y.o)).mono ?_;rintro e n ⟨rfl,R,A⟩;have aL:=hZ R;have O:=UD (Chg w n [W]) (ct ((Y.o.none [W])) A);have B3:=UD (Ac n w.heap.size Ef 42) (B1.o.kept A (by simp;omega));have e0:=(O.o.cell (p:=⟨b,o+m,none⟩) lb (by simpa using a3)).trans ax;have bg:=Q6 lb O.o.size;clear R A)
   |(go_at_call 201;refine(ap.o n aL.o O.o).mono ?_;unfold IR;rintro e w4 ⟨rfl,A⟩;have aK:=hZ A;have H4:=UD (Chg w w4 [W]) (O.o.trans (A.none _));have e1:=aK.o.keeps e0;clear A)
   |(go_at_call 197;refine(aM.o _ (by exact cg H4.o)).mono ?_;rintro e w5 ⟨rfl,A⟩;have ao:=UD (Chg n w5 []) (aK.o.trans (ct cR A));have P:=UD (Chg w w5 [W]) (O.o.trans (ao.o.none _));have B5:=UD (Ac w5 w.heap.size Ef 42) (B3.o.kept ao.o);have d1:=(P.o.cell (p:=⟨K,0,none⟩) bd (by simpa using aO)).trans c1;obtain⟨aj,s1,s2,⟨v0,s3⟩,s4,_⟩:=au.o w5 P.o;have S1:=hZ s1;have S2:=hZ s2;have bh:=Q6 lg P.o.size;clear A s1 s2)
   |(go_at_call 196;refine(aq.o _ (by exact(P.o.mono (fun _ _ f=>by simp at f;simp[f])).setCell _ _ Zh)).mono ?_;rintro e w6 h5;obtain⟨sv,ys,G,rfl,k1,k2⟩:=h5.at;have K1:=hZ k1;have K2:=hZ k2;obtain⟨sa,sc,rfl,_⟩:=k1.row.form;clear h5 k1 k2)
   |(refine Ae rfl _ _ _ rfl w.heap.size (BJ (AC 3 (d++[s]) (Ai u)) (.slice sa (AC 3 (d++[s]) (Ai u)).steps.length sc)) ZN ZN 42 Ef (by exact(B5.o.set_other _ _ (by simp only;omega)).kept K2.o) A0 rfl (Dx _ _ _ _) ?_;intro w7 bc aN aQ;have aY:=hZ aN;have ah:=hZ aQ;clear bc aN aQ))
  have aW:=P.o.size;have a4:Chg w w6 [W,g]:=Chg.trans (b:=_) ((P.o.mono (fun _ _ f=>by simp at f;simp[f])).setCell _ _ Zh) (K2.o.none _);have a2:Chg w w7 [W,g]:=a4.step ah.o (fun i hi M=>by simp at hi;omega);have hk:=K1.o.kept (w0:=w) ah.o (fun b D=>by simp at D;subst D;simpa using B5.o.lt) (by simpa using aW);have a6:=AP.lt _ _ _ S1.o;refine bodyPost_ret (Bi rfl _ _ w.heap.size 42 (BJ (AC 3 (d++[s]) (Ai u)) (.slice sa (AC 3 (d++[s]) (Ai u)).steps.length sc)) _ rfl aY.o underlying42 rfl A0) rfl ?_;refine⟨.iface tv xv,aj,_,ys,G,rfl,hk,⟨?_, ?_,aZ.o⟩,S2.o.back aW,a2.mono (fun _ _ f=> ?_),fun b D hG=> ?_⟩
  .exact(((aL.o.kept ao.o).set_other _ _ (by simp only;exact a5)).kept K2.o).kept ah.o (by simp;omega)
  .exact(S1.o.chg K2.o Zh).chg ah.o (fun b D f=>by
    simp at D;subst D
    rcases S2.o.come _ (Qg _ f)with h|h
    .rcases Qh.1 h with h|h
     .omega
     .rcases Qf.1 h with h|h
      .have:=AP.lt _ _ _ HH.o.xat _ h;omega
      .have:=AP.lt _ _ _ HH.o.wat.at_ _ h;omega
    .have:=B5.o.lt;omega)
  .simp at f
   rcases f with rfl|rfl
   .simp
   .simp[aR]
  .have r:=(K1.o.new b hG).1
   have h2:w5.heap.size<=b:=by simpa using r
   rcases Qh.1 D with rfl|D
   .omega
   .have:=a6 b D;simp at this;omega
 .rw[J0 N (by simpa using J)]
  rw[DO (by rw[af];simpa using J)]at Q;obtain⟨m,f⟩:=Ue d.length
  rw[<-f]at ai Q ax aF aP|-;clear h aG az N H z ad aI ar U V ag ae ab aU an q1 q2 q3 af aJ aE f J L av aw aV aS aB ak M I am aC aD al aa T aA B q6 q7 aq ap au aM;go_enter func168,ntmps168
  go_wp2_with(first
   |(go_at_call 170;refine(ai.o _ (by exact cg cR)).mono ?_;rintro e w1 ⟨rfl,r⟩;have Y:=UD (Chg w w1 []) (ct cR r);have B1:=UD (Ac w1 w.heap.size Ef 42) ((Ac.new w Ef 42).kept r);clear r)
   |(go_at_call 195;refine(Q.o _ (by exact cg Y.o)).mono ?_;rintro e n ⟨he,A⟩;unfold By at he;subst he;have O:=UD (Chg w n []) (ct Y.o A);clear A))
  exact⟨rfl,rfl,O.o.none _⟩
end
section
open Go Go.Shelf Go.RowKit Go.Lib Tree Ptr
theorem XK{w i:Wl}{W g c pi:Nat}{t x:Tr}{v s uv:Vl}{bs n C rest:List Nat}{M:List BY}{l:List Tr}{k:Nat}{f:Tr->Tr}{vs:List Vl}{m:List Nat}{u:Tr}(S:Hu w W t v uv bs)(K:Ir w t v bs M (.list l) (Jn k) C rest)(D:Sy w l k (.slice (some ⟨g,0,none⟩) vs.length c) vs m)(U:C=k::((Vl.slice (some ⟨g,0,none⟩) vs.length c).ownBlock.toList++m))(G:(W::(n++bs)).Nodup)(hx:AP w x s n)(hu:l[pi]? =some u)(T:f (.list l)= .list (l.set pi x))(q:Chg w i [W]):
  ∃z,AP (i.setCell ⟨g,pi,none⟩ s) (Bz (f) t M) v z/\DJ i (W::(n++bs)) (W::z)/\(∃v0,i.cell? ⟨g,pi,none⟩=some v0)/\(∀j,i.frozen? ⟨g,j,none⟩=false)/\g∈bs/\g∉rest:=by
 have J:=List.nodup_iff_count.1 G;have I:=K.perm;have H:=fun a=>I.count_eq a
 have ah:bs.Perm (C++rest):=I;subst U;have E:∀y,y∈n++bs->y≠W:=fun y h e=>by subst e;exact(List.nodup_cons.1 G).1 h
 have B:∀y,y∈(k::((Vl.slice (some ⟨g,0,none⟩) vs.length c).ownBlock.toList++m))++rest->y∈bs:=fun y h=>I.mem_iff.2 h
 have P:Sy i l k (.slice (some ⟨g,0,none⟩) vs.length c) vs m:=by
  have F:∀y,y∈k::((Vl.slice (some ⟨g,0,none⟩) vs.length c).ownBlock.toList++m)->y∉[W]:=fun y h d=>by
   simp at d;exact E y (Qd _ (B y (Qe _ h))) d
  exact⟨D.blk.kept q (F _ Zh),D.lst.kept q (fun y h=>F y (by simp only[Qh,Qf];exact .inr (.inl (by rw[h];simp)))),
   D.at_.chg q (fun y h d=>F y (by simp only[Qh,Qf];exact .inr (.inr d)) h)⟩
 have af:AP i x s n:=hx.chg q (fun y h d=>by simp at h;exact E y (Qe _ d) h)
 have Z:(n++(k::((Vl.slice (some ⟨g,0,none⟩) vs.length c).ownBlock.toList++m))).Nodup:=by
  rw[List.nodup_iff_count];intro a;have o:=J a;have p:=H a;simp only[List.count_cons,List.count_append]at o p|-;omega
 obtain⟨g',c',e,ae,X,bu,r,ag,aa,ab,Q⟩:=P.set hu Z af
 injection e with e _ _
 injection e with e
 injection e with e _ _
 subst e;have Y:g∈bs:=B g (by simp[Vl.ownBlock])
 have L:g∉rest:=Cd (l:=k::((Vl.slice (some ⟨g,0,none⟩) vs.length c).ownBlock.toList++m)) (by
  rw[List.nodup_iff_count];intro a;have o:=J a;have p:=H a;simp only[List.count_cons,List.count_append]at o p|-
  omega) (by simp[Vl.ownBlock])
 have R:=AP.lt _ _ _ S.at_;have V:Chg w (i.setCell ⟨g,pi,none⟩ s) [W,g]:=(q.mono (fun _ _ d=>by simp at d;simp[d])).setCell _ _ Zh
 have ad:Ca rest w (i.setCell ⟨g,pi,none⟩ s):=V.sameB (fun b A=>R b (B b (Qd _ A))) (fun b A d=>by
  simp at d
  rcases d with rfl|rfl
  .exact E b (Qd _ (B b (Qd _ A))) rfl
  .exact L A)
 obtain⟨z,k1,k2⟩:=K.back (f) _ _ (by rw[T];exact Q.pat) ad;refine⟨z,k1,(DJ.refl G).count (fun a=> ?_),ae,X,Y,L⟩;have o:=k2.count_eq a;have p:=H a;have N:=aa.count_eq a;have O:=ab.count_eq a;simp only[List.count_cons,List.count_append]at o p N O|-;omega
end
section
open _root_.Go.Proofs.Tryz
open Go Go.Shelf Go.RowKit Go.Lib Tree Ptr
theorem Ty(W:Nat)(t x u:Tr)(v U vx:Vl)(bs X:List Nat)(F:Nat->Prop)(a:Option Addr)(c:Nat)(d:List BY)(s:BY)(w:Wl)(l:List Tr)(h:Sx W t x v U vx bs X F (.slice a (d.length+1) c) (d++[s]) w)(O:Ah t d=some (.list l))(al:Dy (.list l) s=some u):
  Cl prog 168 #[.pointer (some ⟨W,0,none⟩),.slice a (d.length+1) c,vx] w (Du W U (W::(X++bs)) t x (d++[s]) w):=by
 obtain⟨pi,S,T⟩:=Rd al;have aP:d++[s]≠[]:=Zh
 have K:Ah t (d++[s])=some u:=by rw[BW,O];exact al
 obtain⟨b,o,rfl,ai,av,aC,bc,bd,aL⟩:=h.tat.last;have lb:=h.tat.lt b ai;obtain⟨tx,xx,rfl⟩:=h.xat.iface;obtain⟨tv,xv,rfl⟩:=h.wat.at_.iface;obtain⟨vp,bp,rest,H⟩:=EU h.wat.at_ _ d _ rfl O;obtain⟨E,sv,vs,fs,rfl,C,M⟩:=H.at_.list;have aO:l.length<=65536:=by have:=(h.wat.fine.lead O).many;simp only[Ab]at this;omega
 have aQ:pi<l.length:=Jf S;obtain⟨vu,bu,ad,aa,ar⟩:=C.at_.get T;obtain⟨_,_,_,_,aU,aX,r2,_,A,q6,q7,az⟩:=Fx H.at_ (s:=s) (by simp only[D6];exact S) T;have aA:=H.snoc az;obtain⟨tu,xu,rfl⟩:=aa.iface;have aE:=C.at_.length
 obtain⟨g,Y,rfl,ba⟩:∃g Y,sv= .slice (some ⟨g,0,none⟩) vs.length Y/\vs.length<=Y:=by
  rcases C.lst.one with⟨_,e⟩|h
  .rw[e]at ad;simp at ad
  .exact h
 have a7:aU= .iface tu xu:=by
  unfold Jn at A
  injection A with _ A
  injection A with A
  injection A with A
  injection A with A
  subst A;have B:=C.blk.cell 0;simp only[Qa]at B;rw[q6]at B
  injection B with B
  injection B with B
  injection B with B
  injection B with B
  subst B;have e7:=C.lst.cell rfl pi _ ad;rw[q7]at e7;injection e7
 subst a7;have Z:=h.wat.fine.lead K;have aR:=Ar h.xfine.fits;have am:=Ar h.wat.fine.fits;obtain⟨q1,q2,q3⟩:=J4 (x:=x) h.wat.fine K;have ab:=KC (x:=x) h.wat.fine K;have aF:KT w (.iface tu xu) (Ag u).nodes (Ag u).bytes:= .inr ⟨u,bu,aa,Z.good,Z.fits,rfl,rfl⟩;have aB:(d++[s]).length=d.length+1:=Zh
 rw[aB]at ab
 have Q:=UD (∀q,Chg w q []->Cl prog 195 #[.pointer (some ⟨W,0,none⟩),.slice (some ⟨b,o,none⟩) (d.length+1) c,.iface tx xx,.iface tu xu,.int .i64 0] q (Dh W (.iface tv xv) U (Ag (AE t (d++[s]) x)).nodes (Ag (AE t (d++[s]) x)).bytes (d.length+1+(Ag x).depth) q)) fun q J=>
  Jl W _ U _ _ x _ _ X _ _ _ _ 0 _ _ c q (h.wat.blk.kept J) (h.xat.chg J Zh) h.xfine.good h.xfine.fits (aF.kept J) am.1 am.2.1 Zj aC q1 Zj
 have ag:=hZ (Dl h.laid h.wat h.tat aA)
 have au:∀y,y∈bu->y≠W/\y≠g:=fun y f=>by
  have a8:=ar y f;have aw:=List.nodup_iff_count.1 h.nodup y;have aD:=H.perm.count_eq y;rw[M]at aD;have z:=List.count_pos_iff.2 a8;simp only[List.count_cons,List.count_append,Vl.ownBlock,Option.toList_some,List.count_nil]at aw aD
  constructor
  .intro e;subst e;simp at aw;omega
  .intro e;subst e;simp at aw aD;omega
 have ak:∀y,y∈bp->y∈bs:=fun y f=>H.perm.mem_iff.2 (Qe _ f)
 have aN:g∈bs:=ak g (by rw[M];simp[Vl.ownBlock])
 have aj:W∉bp:=fun k=>by
  have:=ak W k;have hn:=h.nodup;simp[this]at hn
 have N:∀y,y∈[W,g]->y∈W::(X++bs):=fun y f=>by simp at f;rcases f with rfl|rfl;simp;simp[aN]
 have ao:=UD (∀q,Chg w q [W,g]->Cl prog 196 #[.int .i64 3,.slice (some ⟨b,o,none⟩) (d.length+1) c,.iface tu xu] q (Et (AC 3 (d++[s]) (Ai u)) q)) fun q J=>by
  have ht:=h.tat.kept J (fun y f=>h.apart y (N y f));exact DE 3 F _ (d++[s]) u _ bu q (h.laid.kept J (fun y f=>h.big y (N y f))) ht.row ht.lt ht.ok ht.small Z (aa.chg J (fun y f k=>by simp at f;have:=au y k;omega))
 have c1:w.cell? ⟨E,0,none⟩=some (.slice (some ⟨g,0,none⟩) vs.length Y):=C.blk.cell 0
 have aq:(fun p=>Bz (fun _=>x) p [s]) (.list l)= .list (l.set pi x):=by
  show Bz (fun _=>x) (.list l) [s]=_
  rw[BF (by simp only[D6];exact S:D6 (.list l) s=some pi) T];rfl
 have ap:=UD (∀n,Chg w n [W]->∃ah,AP (n.setCell ⟨g,pi,none⟩ (.iface tx xx)) (Bz (fun p=>Bz (fun _=>x) p [s]) t d) (.iface tv xv) ah/\DJ n (W::(X++bs)) (W::ah)/\(∃v0,n.cell? ⟨g,pi,none⟩=some v0)/\(∀j,n.frozen? ⟨g,j,none⟩=false)/\g∈bs/\g∉rest) fun n R=>
  XK h.wat H C M h.nodup h.xat T aq R
 have HH:=hZ h;have aK:E≠W:=fun e=>aj (by rw[M,<-e];simp)
 have a3:g≠W:=fun e=>aj (by rw[M,<-e];simp[Vl.ownBlock])
 have lW:=h.wat.blk.lt;have lg:=C.lst.lt (g:=g) rfl;have aT:=C.blk.lt;have bb:pi<vs.length:=Zj
 have an:=UD (∀n,Ac n W [.iface tv xv,.int .i64 (Ag (AE t (d++[s]) x)).nodes,.int .i64 (Ag (AE t (d++[s]) x)).bytes,U] 98->Chg w n [W]->Cl prog 201 #[.pointer (some ⟨W,0,none⟩),.slice (some ⟨b,o,none⟩) d.length c] n (fun e w'=>e= .returned (.tuple #[Jn E,.bool true])/\Chg n w' [])) fun n D R=>by
  have hi:=h.tat.init.kept R (fun y f=>h.apart y (N y (by simp at f;simp[f])));have a5:AP n t (.iface tv xv) bs:=h.wat.at_.chg R (fun y f k=>by simp at f;subst f;have hn:=h.nodup;simp[k]at hn);have a6:Ca bs w n:=R.sameB (AP.lt _ _ _ h.wat.at_) (fun y f k=>by simp at k;subst k;have hn:=h.nodup;simp[f]at hn);have:=LJ W t _ _ _ U bs F _ d n (h.laid.kept R (fun y f=>h.big y (N y (by simp at f;simp[f])))) D a5 h.wat.fine hi.row hi.ok hi.small Zj;rw[Iv O]at this;refine this.mono fun e w' ⟨z,aU,aX,bg,h2,h3⟩=>⟨?_,z⟩
  rw[h2,(Dv.same d t _ _ bs h.wat.at_ a6 H.reach).inj h3.reach]
 have aI:=UD (∀q,Chg w q [W]->Cl prog 149 #[.string s,.int .i64 vs.length] q (fun e w'=>e= .returned (.tuple #[.int .i64 pi,.bool true])/\Chg q w' [])) fun q J=>by
  have:=Gl s l.length q (h.laid.kept J (fun y f=>h.big y (N y (by simp at f;simp[f])))) Zj Zj;unfold Je at this;rw[S]at this;rw[aE];exact this
 have aZ:b≠W:=fun e=>h.apart W Zh (by rw[<-e];exact ai)
 have a0:OS prog (.iface 104 (.pointer (some ⟨E,0,none⟩))) 95 175 #[.pointer none,.bool false]:=fun _=>Yb
 have a1:OS prog (.iface 104 (.pointer (some ⟨E,0,none⟩))) 95 104 #[.pointer (some ⟨E,0,none⟩),.bool true]:=fun _=>Yb
 have ax:Bz (fun p=>Bz (fun _=>x) p [s]) t d=AE t (d++[s]) x:=by unfold AE;rw[Gh]
 rw[ax]at ap;have ay:(Ag (AE t (d++[s]) x)).within=true->Bt (AE t (d++[s]) x):=fun I=>h.wat.fine.set h.xfine K I
 by_cases I:(Ag (AE t (d++[s]) x)).within=true
 .rw[Pr K I]
  rw[En (by rw[ab];exact I)]at Q;have aW:=hZ (ay I);obtain⟨m,k⟩:=Ue d.length
  rw[<-k]at ag Q ao an av aC aL|-;clear h aP K H C S T ad aa Z aR am q1 q2 q3 ab aF aB k I M ar au aE aQ ay ai O al aO aq az aA ak aj N ax A q6 q7;go_enter func168,ntmps168
  go_wp2_with(first
   |(go_at_call 170;refine(ag.o _ (by exact cg cR)).mono ?_;rintro e w1 ⟨rfl,z⟩;have V:=UD (Chg w w1 []) (ct cR z);have B1:=UD (Ac w1 w.heap.size Ef 42) ((Ac.new w Ef 42).kept z);clear z)
   |(go_at_call 195;refine(Q.o _ (by exact cg V.o)).mono ?_;rintro e n ⟨rfl,h3,r⟩;have aH:=hZ h3;have L:=UD (Chg w n [W]) (ct ((V.o.none [W])) r);have B3:=UD (Ac n w.heap.size Ef 42) (B1.o.kept r (by simp;omega));have e0:=(L.o.cell (p:=⟨b,o+m,none⟩) lb (by simpa using aZ)).trans av;have be:=Q6 lb L.o.size;clear h3 r)
   |(go_at_call 201;refine(an.o n aH.o L.o).mono ?_;unfold Jn;rintro e w4 ⟨rfl,r⟩;have aG:=hZ r;have H4:=UD (Chg w w4 [W]) (L.o.trans (r.none _));have e1:=aG.o.keeps e0;have d4:=(H4.o.cell (p:=⟨E,0,none⟩) aT (by simpa using aK)).trans c1;clear r))
  have i0:(0:Int)<=(m:Int):=Zj
  have i1:(m:Int)<(m:Int)+1:=Zj
  have i2:(m:Int)<((m+1:Nat):Int):=Zj
  go_region_held3(fun w'=>w'.cell? ⟨b,o+m,none⟩=some (.string s)/\w'.cell? ⟨E,0,none⟩=some (.slice (some ⟨g,0,none⟩) vs.length Y)) (first|exact⟨e1,d4⟩|exact⟨e5,d1⟩)
   (first|(go_at_call 149;refine(aI.o _ (by exact cg H4.o)).mono ?_;rintro e w5 ⟨rfl,r⟩;have ae:=UD (Chg n w5 []) (aG.o.trans (ct cR r));have P:=UD (Chg w w5 [W]) (L.o.trans (ae.o.none _));have B5:=UD (Ac w5 w.heap.size Ef 42) (B3.o.kept ae.o);have d1:=(P.o.cell (p:=⟨E,0,none⟩) aT (by simpa using aK)).trans c1;have e5:=ae.o.keeps e0;obtain⟨ah,s1,s2,⟨v0,s3⟩,s4,_⟩:=ap.o w5 P.o;have S1:=hZ s1;have S2:=hZ s2;have bf:=Q6 lg P.o.size;clear r s1 s2))
  go_wp2_with(first
   |(go_at_call 196;refine(ao.o _ (by exact(P.o.mono (fun _ _ k=>by simp at k;simp[k])).setCell _ _ Zh)).mono ?_;rintro e w6 h5;obtain⟨sv,ys,G,rfl,k1,k2⟩:=h5.at;have K1:=hZ k1;have K2:=hZ k2;obtain⟨sa,sc,rfl,_⟩:=k1.row.form;clear h5 k1 k2)
   |(refine Ae rfl _ _ _ rfl w.heap.size (BJ (AC 3 (d++[s]) (Ai u)) (.slice sa (AC 3 (d++[s]) (Ai u)).steps.length sc)) ZN ZN 42 Ef (by exact(B5.o.set_other _ _ (by simp only;omega)).kept K2.o) A0 rfl (Dx _ _ _ _) ?_;intro w7 a9 aJ aM;have aV:=hZ aJ;have af:=hZ aM;clear a9 aJ aM))
  have aS:=P.o.size;have a2:Chg w w6 [W,g]:=Chg.trans (b:=_) ((P.o.mono (fun _ _ k=>by simp at k;simp[k])).setCell _ _ Zh) (K2.o.none _);have aY:Chg w w7 [W,g]:=a2.step af.o (fun i hi O=>by simp at hi;omega);have hk:=K1.o.kept (w0:=w) af.o (fun b D=>by simp at D;subst D;simpa using B5.o.lt) (by simpa using aS);have a4:=AP.lt _ _ _ S1.o;refine bodyPost_ret (Bi rfl _ _ w.heap.size 42 (BJ (AC 3 (d++[s]) (Ai u)) (.slice sa (AC 3 (d++[s]) (Ai u)).steps.length sc)) _ rfl aV.o underlying42 rfl A0) rfl ?_;refine⟨.iface tv xv,ah,_,ys,G,rfl,hk,⟨?_, ?_,aW.o⟩,S2.o.back aS,aY.mono (fun _ _ k=> ?_),fun b D hG=> ?_⟩
  .exact(((aH.o.kept ae.o).set_other _ _ (by simp only;exact a3)).kept K2.o).kept af.o (by simp;omega)
  .exact(S1.o.chg K2.o Zh).chg af.o (fun b D k=>by
    simp at D;subst D
    rcases S2.o.come _ (Qg _ k)with h|h
    .rcases Qh.1 h with h|h
     .omega
     .rcases Qf.1 h with h|h
      .have:=AP.lt _ _ _ HH.o.xat _ h;omega
      .have:=AP.lt _ _ _ HH.o.wat.at_ _ h;omega
    .have:=B5.o.lt;omega)
  .simp at k
   rcases k with rfl|rfl
   .simp
   .simp[aN]
  .have z:=(K1.o.new b hG).1
   have h2:w5.heap.size<=b:=by simpa using z
   rcases Qh.1 D with rfl|D
   .omega
   .have:=a4 b D;simp at this;omega
 .rw[J0 K (by simpa using I)]
  rw[DO (by rw[ab];simpa using I)]at Q;obtain⟨m,k⟩:=Ue d.length
  rw[<-k]at ag Q av aC aL|-;clear h aP K H C S T ad aa Z aR am q1 q2 q3 ab aF aB k I M ar au aE aQ ay ai O al aO aq az aA ak aj N ax A q6 q7 ao an ap aI;go_enter func168,ntmps168
  go_wp2_with(first
   |(go_at_call 170;refine(ag.o _ (by exact cg cR)).mono ?_;rintro e w1 ⟨rfl,z⟩;have V:=UD (Chg w w1 []) (ct cR z);have B1:=UD (Ac w1 w.heap.size Ef 42) ((Ac.new w Ef 42).kept z);clear z)
   |(go_at_call 195;refine(Q.o _ (by exact cg V.o)).mono ?_;rintro e n ⟨he,r⟩;unfold By at he;subst he;have L:=UD (Chg w n []) (ct V.o r);clear r))
  exact⟨rfl,rfl,L.o.none _⟩
theorem ae(W:Nat)(t x:Tr)(v e f:Vl)(bs g:List Nat)(F:Nat->Prop)(a:Option Addr)(c:Nat)(ts:List BY)(w:Wl)(h:Sx W t x v e f bs g F (.slice a ts.length c) ts w):
  Cl prog 168 #[.pointer (some ⟨W,0,none⟩),.slice a ts.length c,f] w (Du W e (W::(g++bs)) t x ts w):=by
 cases b:Ah t ts with
 |none=>
  rw[RP b];exact Tz W t v e f bs F a _ c ts w _ h.laid h.wat h.tat b h.xat.iface
 |some u=>
  by_cases j:ts=[]
  .subst j
   exact TA W t x v e f bs g F a c w h
  .obtain⟨d,s,rfl⟩:∃d s,ts=d++[s]:=⟨ts.dropLast,ts.getLast j,(List.dropLast_concat_getLast j).symm⟩
   have m:(d++[s]).length=d.length+1:=Zh
   rw[m]at h|-;rw[BW]at b
   cases i:Ah t d with
   |none=>rw[i]at b;simp at b
   |some p=>
    rw[i]at b;simp only[Option.bind_some]at b;by_cases k:AX p=true
    .rw[Md k]at b;cases b
    .cases p with
     |list l=>exact Ty W t x u v e f bs g F a c d s w l h i b
     |obj ks l=>exact bG W t x u v e f bs g F a c d s w ks l h i b
     |_=>simp[AX]at k
end
section
open Go Go.Shelf Go.RowKit Go.Lib Tree Ptr
def Ed(a i:Nat)(sv sk:Vl)(j:Nat)(v:Vl):Prop:=
 match j with
 |0=>v= .pointer (some ⟨a,0,none⟩)
 |1=>v= .pointer (some ⟨a,0,none⟩)
 |2=>v= .pointer (some ⟨a,0,none⟩)
 |3=>v= .pointer (some ⟨a,0,none⟩)
 |10=>v= .pointer (some ⟨a,0,none⟩)
 |11=>v= .pointer (some ⟨a,0,none⟩)
 |12=>v= .pointer (some ⟨a,0,none⟩)
 |13=>v= .pointer (some ⟨a,0,none⟩)
 |19=>v= .pointer (some ⟨a,0,none⟩)
 |22=>v= .pointer (some ⟨a,0,none⟩)
 |23=>v= .pointer (some ⟨a,0,none⟩)
 |24=>v= .pointer (some ⟨a,0,none⟩)
 |4=>v= .pointer (some ⟨a,1,none⟩)
 |20=>v= .pointer (some ⟨a,1,none⟩)
 |5=>v=sk
 |14=>v=sv
 |6=>v= .int .i64 i
 |7=>v= .int .i64 i
 |15=>v= .int .i64 i
 |16=>v= .int .i64 i
 |8=>v= .int .i64 (i+1)
 |17=>v= .int .i64 (i+1)
 |_=>True
structure OQ(w0:Wl)(b' i nk nv:Nat)(sv sk:Vl)(ks ks':List BY)(vs vs':List Vl)(d:Nat->Bool)(f:Nat->Vl)(w:Wl):Prop where
 chg:Chg w0 w (b'::(sk.ownBlock.toList++sv.ownBlock.toList))
 vals:∀j,d j=true->Ed b' i sv sk j (f j)
 o9:d 9=true->d 5=true
 o18:d 18=true->d 9=true/\d 14=true
 o21:d 21=true->d 18=true
 o25:d 25=true->d 21=true
 blk0:d 21=false->Ac w b' [sv,sk] 177
 blk1:d 21=true->d 25=false->Ac w b' [sv,f 9] 177
 blk2:d 25=true->Ac w b' [f 18,f 9] 177
 keys0:d 9=false->AK w sk 9 (Ad ks)
 items0:d 18=false->AK w sv 95 vs
 r9:d 9=true->∃g cap,f 9= .slice (some ⟨g,0,none⟩) nk cap/\AK w (.slice (some ⟨g,0,none⟩) nk cap) 9 (Ad ks')/\sk.ownBlock=some g
 r18:d 18=true->∃g cap,f 18= .slice (some ⟨g,0,none⟩) nv cap/\AK w (.slice (some ⟨g,0,none⟩) nv cap) 95 vs'/\sv.ownBlock=some g
section
variable {w0:Wl} {b' i nk nv:Nat} {sv sk:Vl} {ks ks':List BY} {vs vs':List Vl} {d:Nat->Bool} {f:Nat->Vl} {w w':Wl}
theorem OQ.vals'{j:Nat}{v:Vl}(h:OQ w0 b' i nk nv sv sk ks ks' vs vs' d f w)(b:Ed b' i sv sk j v):∀k,BA d j k=true->Ed b' i sv sk k (Eb f j v k):=fun k a=>by
 by_cases e:k=j
 .subst e;rw[Bf];exact b
 .rw[AA f v e];rw[An d e]at a;exact h.vals k a
theorem OQ.plain{j:Nat}{v:Vl}(h:OQ w0 b' i nk nv sv sk ks ks' vs vs' d f w)(o:9≠j)(n:18≠j)(s:21≠j)(t:25≠j)(r:Ed b' i sv sk j v)(a:Chg w w' []):OQ w0 b' i nk nv sv sk ks ks' vs vs' (BA d j) (Eb f j v) w':=by
 have up:∀k,d k=true->BA d j k=true:=fun k q=>by unfold BA;split;rfl;exact q
 refine⟨h.chg.trans (a.none _),h.vals' r, ?_, ?_, ?_, ?_, ?_, ?_, ?_, ?_, ?_, ?_, ?_⟩<;>simp only[An d o,An d n,An d s,An d t,AA f v o,AA f v n]
 .exact fun e=>up 5 (h.o9 e)
 .exact fun e=>⟨(h.o18 e).1,up 14 (h.o18 e).2⟩
 .exact h.o21
 .exact h.o25
 .exact fun e=>(h.blk0 e).kept a
 .exact fun e p=>(h.blk1 e p).kept a
 .exact fun e=>(h.blk2 e).kept a
 .exact fun e=>(h.keys0 e).kept a
 .exact fun e=>(h.items0 e).kept a
 .exact fun e=>by obtain⟨g,c,b,l,m⟩:=h.r9 e;exact⟨g,c,b,l.kept a,m⟩
 .exact fun e=>by obtain⟨g,c,b,l,m⟩:=h.r18 e;exact⟨g,c,b,l.kept a,m⟩
theorem OQ.call9{g b:Nat}(q:Nh w0 b' sv sk)(h:OQ w0 b' i nk nv sv sk ks ks' vs vs' d f w)(p:d 9=false)(s:d 5=true)(v:AK w' (.slice (some ⟨g,0,none⟩) nk b) 9 (Ad ks'))(l:Chg w w' sk.ownBlock.toList)(x:sk.ownBlock=some g):
  OQ w0 b' i nk nv sv sk ks ks' vs vs' (BA d 9) (Eb f 9 (.slice (some ⟨g,0,none⟩) nk b)) w':=by
 have n:∀k,k≠9->BA d 9 k=d k:=fun k o=>An d o
 have m:∀k,k≠9->Eb f 9 (.slice (some ⟨g,0,none⟩) nk b) k=f k:=fun k o=>AA f _ o
 have c:d 18=false:=by cases e:d 18 with
  |false=>rfl
  |true=>rw[(h.o18 e).1]at p;cases p
 have j:d 21=false:=by cases e:d 21 with
  |false=>rfl
  |true=>rw[h.o21 e]at c;cases c
 have r:d 25=false:=by cases e:d 25 with
  |false=>rfl
  |true=>rw[h.o25 e]at j;cases j
 have t:b'∉sk.ownBlock.toList:=fun a=>(q.lk b' (by simpa using a)).2.1 rfl
 refine⟨h.chg.trans (l.mono fun _ _ a=>Qg _ (Qe _ a)),h.vals' (by simp[Ed]), ?_, ?_, ?_, ?_, ?_, ?_, ?_, ?_, ?_, ?_, ?_⟩<;>simp only[n 5 ZM,n 14 ZM,n 18 ZM,n 21 ZM,n 25 ZM,m 18 ZM,BG,Bf]
 .exact fun _=>s
 .rw[c];intro e;cases e
 .exact h.o21
 .exact h.o25
 .exact fun e=>(h.blk0 e).kept l t
 .rw[j];intro e;cases e
 .rw[r];intro e;cases e
 .intro e;cases e
 .exact fun e=>(h.items0 e).kept l (fun y u a=>(q.lk y (by simpa using a)).2.2 u)
 .exact fun _=>⟨g,b,rfl,v,x⟩
 .rw[c];intro e;cases e
theorem OQ.call18{g b:Nat}(q:Nh w0 b' sv sk)(h:OQ w0 b' i nk nv sv sk ks ks' vs vs' d f w)(p:d 18=false)(j:d 9=true)(v:d 14=true)(A:AK w' (.slice (some ⟨g,0,none⟩) nv b) 95 vs')(l:Chg w w' sv.ownBlock.toList)(B:sv.ownBlock=some g):
  OQ w0 b' i nk nv sv sk ks ks' vs vs' (BA d 18) (Eb f 18 (.slice (some ⟨g,0,none⟩) nv b)) w':=by
 have n:∀k,k≠18->BA d 18 k=d k:=fun k o=>An d o
 have m:∀k,k≠18->Eb f 18 (.slice (some ⟨g,0,none⟩) nv b) k=f k:=fun k o=>AA f _ o
 have c:d 21=false:=by cases e:d 21 with
  |false=>rfl
  |true=>rw[h.o21 e]at p;cases p
 have u:d 25=false:=by cases e:d 25 with
  |false=>rfl
  |true=>rw[h.o25 e]at c;cases c
 have x:b'∉sv.ownBlock.toList:=fun a=>(q.lv b' (by simpa using a)).2 rfl
 obtain⟨gk,t,C,D,s⟩:=h.r9 j;have z:gk∉sv.ownBlock.toList:=fun a=>(q.lk gk s).2.2 (by simpa using a)
 refine⟨h.chg.trans (l.mono fun _ _ a=>Qg _ (Qd _ a)),h.vals' (by simp[Ed]), ?_, ?_, ?_, ?_, ?_, ?_, ?_, ?_, ?_, ?_, ?_⟩<;>simp only[n 5 ZM,n 9 ZM,n 14 ZM,n 21 ZM,n 25 ZM,m 9 ZM,BG,Bf]
 .exact h.o9
 .exact fun _=>⟨j,v⟩
 .exact fun _=>trivial
 .exact h.o25
 .exact fun e=>(h.blk0 e).kept l x
 .rw[c];intro e;cases e
 .rw[u];intro e;cases e
 .rw[j];intro e;cases e
 .intro e;cases e
 .exact fun _=>⟨gk,t,C,D.kept l (fun y r a=>by simp[Vl.ownBlock]at r;subst r;exact z a),s⟩
 .exact fun _=>⟨g,b,rfl,A,B⟩
theorem OQ.store21(h:OQ w0 b' i nk nv sv sk ks ks' vs vs' d f w)(q:Nh w0 b' sv sk)(g:d 21=false)(b:d 18=true):OQ w0 b' i nk nv sv sk ks ks' vs vs' (BA d 21) (Eb f 21 undef) (w.setCell ⟨b',1,none⟩ (f 9)):=by
 have n:∀k,k≠21->BA d 21 k=d k:=fun k l=>An d l
 have m:∀k,k≠21->Eb f 21 undef k=f k:=fun k l=>AA f _ l
 have v:d 25=false:=by cases e:d 25 with
  |false=>rfl
  |true=>rw[h.o25 e]at g;cases g
 have p:=(h.o18 b).1;have j:Chg w (w.setCell ⟨b',1,none⟩ (f 9)) [b']:=(Chg.refl w [b']).setCell _ _ Zh;obtain⟨gk,t,A,B,s⟩:=h.r9 p;obtain⟨c,u,x,z,r⟩:=h.r18 b;have C:gk≠b':=(q.lk gk s).2.1;have D:c≠b':=(q.lv c r).2;refine⟨h.chg.trans (j.mono fun _ _ a=>by simp at a;simp[a]),h.vals' (by simp[Ed]), ?_, ?_, ?_, ?_, ?_, ?_, ?_, ?_, ?_, ?_, ?_⟩<;>simp only[n 5 ZM,n 9 ZM,n 14 ZM,n 18 ZM,n 25 ZM,m 9 ZM,m 18 ZM,BG]
 .exact h.o9
 .exact h.o18
 .exact fun _=>b
 .exact fun _=>trivial
 .intro e;cases e
 .exact fun _ _=>(h.blk0 g).set 1 (f 9)
 .rw[v];intro e;cases e
 .rw[p];intro e;cases e
 .rw[b];intro e;cases e
 .exact fun _=>⟨gk,t,A,B.kept j (fun y o a=>by simp[Vl.ownBlock]at o a;omega),s⟩
 .exact fun _=>⟨c,u,x,z.kept j (fun y o a=>by simp[Vl.ownBlock]at o a;omega),r⟩
theorem OQ.store25(h:OQ w0 b' i nk nv sv sk ks ks' vs vs' d f w)(q:Nh w0 b' sv sk)(v:d 25=false)(b:d 21=true):OQ w0 b' i nk nv sv sk ks ks' vs vs' (BA d 25) (Eb f 25 undef) (w.setCell ⟨b',0,none⟩ (f 18)):=by
 have n:∀k,k≠25->BA d 25 k=d k:=fun k l=>An d l
 have m:∀k,k≠25->Eb f 25 undef k=f k:=fun k l=>AA f _ l
 have g:=h.o21 b;have p:=(h.o18 g).1;have j:Chg w (w.setCell ⟨b',0,none⟩ (f 18)) [b']:=(Chg.refl w [b']).setCell _ _ Zh;obtain⟨gk,t,A,B,s⟩:=h.r9 p;obtain⟨c,u,x,z,r⟩:=h.r18 g;have C:gk≠b':=(q.lk gk s).2.1;have D:c≠b':=(q.lv c r).2;refine⟨h.chg.trans (j.mono fun _ _ a=>by simp at a;simp[a]),h.vals' (by simp[Ed]), ?_, ?_, ?_, ?_, ?_, ?_, ?_, ?_, ?_, ?_, ?_⟩<;>simp only[n 5 ZM,n 9 ZM,n 14 ZM,n 18 ZM,n 21 ZM,m 9 ZM,m 18 ZM,BG]
 .exact h.o9
 .exact h.o18
 .exact h.o21
 .exact fun _=>b
 .rw[b];intro e;cases e
 .intro _ e;cases e
 .exact fun _=>(h.blk1 b v).set 0 (f 18)
 .rw[p];intro e;cases e
 .rw[g];intro e;cases e
 .exact fun _=>⟨gk,t,A,B.kept j (fun y o a=>by simp[Vl.ownBlock]at o a;omega),s⟩
 .exact fun _=>⟨c,u,x,z.kept j (fun y o a=>by simp[Vl.ownBlock]at o a;omega),r⟩
end
theorem Ih{w:Wl}:∀{l:List Tr} {vs:List Vl} {bs:List Nat},PsAt w l vs bs->∀u∈vs,∃t x,u= .iface t x
 |[],_,_,h,u,a=>by simp only[PsAt]at h;obtain⟨rfl,_⟩:=h;cases a
 |t::l,_,_,h,u,a=>by
  simp only[PsAt]at h;obtain⟨v,r,d,e,rfl,b,c,_⟩:=h
  rcases Qh.1 a with rfl|a
  .exact b.iface
  .exact Ih c u a
def OP(w b:Wl)(W:Nat)(e u:Tr)(v f:Vl)(bs cs:List Nat):Prop:=
 ∃d c,AP b u f d/\AP b e v c/\(∀a,(W::(d++c)).count a<=(W::bs).count a)/\Chg w b cs/\(∀y,y∈cs->y∈bs)/\W∉cs
theorem Wo{w i:Wl}{W g c n pi:Nat}{t u:Tr}{v uv E:Vl}{bs p rest:List Nat}{D:List BY}{s:BY}{l:List Tr}{d:Nat}{vs:List Vl}{e:List Nat}(P:Hu w W t v uv bs)(r:Ir w t v bs D (.list l) (Jn d) p rest)(M:Sy w l d (.slice (some ⟨g,0,none⟩) vs.length c) vs e)(Q:p=d::((Vl.slice (some ⟨g,0,none⟩) vs.length c).ownBlock.toList++e))(z:(W::bs).Nodup)(V:l[pi]? =some u)(X:vs[pi]? =some E)(hcut:CT s (.list l)= .list (l.eraseIdx pi))(k:Chg w i [d,g])(N:Ac i d [.slice (some ⟨g,0,none⟩) n c] 107)(O:AK i (.slice (some ⟨g,0,none⟩) n c) 95 (vs.eraseIdx pi)):
  OP w i W (Bz (CT s) t D) u v E bs [d,g]:=by
 have R:=List.nodup_iff_count.1 z;have C:=r.perm;subst Q;have B:=fun a=>C.count_eq a
 have x:=AP.lt _ _ _ P.at_;have o:∀y,y∈(d::((Vl.slice (some ⟨g,0,none⟩) vs.length c).ownBlock.toList++e))++rest->y∈bs:=fun y b=>C.mem_iff.2 b
 have A:∀y,y∈[d,g]->y∈bs:=fun y b=>o y (by simp only[Qh,List.not_mem_nil,or_false]at b;rcases b with h|h<;>subst h<;>simp[Vl.ownBlock])
 have T:([d,g]++(e++rest)).Nodup:=by
  rw[List.nodup_iff_count];intro a;have f:=R a;have j:=B a;simp only[List.count_cons,List.count_append,Vl.ownBlock,Option.toList_some,List.count_nil]at f j|-;omega
 have q:∀y,y∈e++rest->y∉[d,g]:=fun y b m=>Cd T m b
 have S:Ca e w i:=k.sameB (fun y b=>x y (o y (by simp only[Qh,Qf];exact .inl (.inr (.inr b))))) (fun y b=>q y (Qe _ b));have U:Ca rest w i:=k.sameB (fun y b=>x y (o y (Qd _ b))) (fun y b=>q y (Qd _ b));obtain⟨ab,J,aa,f,j,K,L⟩:=M.erase V N O S;rw[X]at f
 injection f with f
 subst f;obtain⟨I,Y,Z⟩:=r.back (CT s) _ _ (by rw[hcut];exact K.pat) U;refine⟨J,I,j,Y,fun a=> ?_,k,A,fun m=> ?_⟩
 .have F:=Z.count_eq a;have G:=B a;have H:=L.count_eq a
  simp only[List.count_cons,List.count_append,Vl.ownBlock,Option.toList_some,List.count_nil]at F G H|-;omega
 .exact(List.nodup_cons.1 z).1 (A W m)
theorem Wp{w e:Wl}{W d j I gk i H pi x r:Nat}{t u:Tr}{v uv J:Vl}{bs q rest:List Nat}{G:List BY}{s:BY}{ks:List BY}{l:List Tr}{c:Nat}{vs:List Vl}{f:List Nat}{m:Nat}(V:Hu w W t v uv bs)(A:Ir w t v bs G (.obj ks l) (IR c) q rest)(R:PS w ks l c (.slice (some ⟨d,0,none⟩) vs.length j) (.slice (some ⟨gk,0,none⟩) m i) vs f)(X:q=c::((Vl.slice (some ⟨d,0,none⟩) vs.length j).ownBlock.toList++((Vl.slice (some ⟨gk,0,none⟩) m i).ownBlock.toList++f)))(C:(W::bs).Nodup)(hu:l[pi]? =some u)(ad:vs[pi]? =some J)(hcut:CT s (.obj ks l)= .obj (ks.eraseIdx pi) (l.eraseIdx pi))(n:Chg w e [c,gk,d])(S:Ac e c [.slice (some ⟨d,0,none⟩) I x,.slice (some ⟨gk,0,none⟩) H r] 177)(U:AK e (.slice (some ⟨d,0,none⟩) I x) 95 (vs.eraseIdx pi))(T:AK e (.slice (some ⟨gk,0,none⟩) H r) 9 (Ad (ks.eraseIdx pi))):
  OP w e W (Bz (CT s) t G) u v J bs [c,gk,d]:=by
 have Y:=List.nodup_iff_count.1 C;have F:=A.perm;subst X;have E:=fun a=>F.count_eq a
 have B:=AP.lt _ _ _ V.at_;have p:∀y,y∈(c::((Vl.slice (some ⟨d,0,none⟩) vs.length j).ownBlock.toList++((Vl.slice (some ⟨gk,0,none⟩) m i).ownBlock.toList++f)))++rest->y∈bs:=fun y b=>F.mem_iff.2 b
 have D:∀y,y∈[c,gk,d]->y∈bs:=fun y b=>p y (by simp only[Qh,List.not_mem_nil,or_false]at b;rcases b with h|h|h<;>subst h<;>simp[Vl.ownBlock])
 have aa:([c,gk,d]++(f++rest)).Nodup:=by
  rw[List.nodup_iff_count];intro a;have g:=Y a;have k:=E a;simp only[List.count_cons,List.count_append,Vl.ownBlock,Option.toList_some,List.count_nil]at g k|-;omega
 have z:∀y,y∈f++rest->y∉[c,gk,d]:=fun y b o=>Cd aa o b
 have Z:Ca f w e:=n.sameB (fun y b=>B y (p y (by simp only[Qh,Qf];exact .inl (.inr (.inr (.inr b)))))) (fun y b=>z y (Qe _ b));have ab:Ca rest w e:=n.sameB (fun y b=>B y (p y (Qd _ b))) (fun y b=>z y (Qd _ b));obtain⟨af,O,ae,g,k,P,Q⟩:=R.erase hu S U T Z;rw[ad]at g
 injection g with g
 subst g;obtain⟨N,k1,k2⟩:=A.back (CT s) _ _ (by rw[hcut];exact P.pat) ab;refine⟨O,N,k,k1,fun a=> ?_,n,D,fun o=> ?_⟩
 .have K:=k2.count_eq a;have L:=E a;have M:=Q.count_eq a
  simp only[List.count_cons,List.count_append,Vl.ownBlock,Option.toList_some,List.count_nil]at K L M|-;omega
 .exact(List.nodup_cons.1 C).1 (D W o)
end
end Go.Proofs.YtkfnkppdhcaeoaaGreatDoor

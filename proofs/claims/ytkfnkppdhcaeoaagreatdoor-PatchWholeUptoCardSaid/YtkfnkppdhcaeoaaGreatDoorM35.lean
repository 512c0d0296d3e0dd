/- Part 35 of the proof of patchJoined_card. -/
import Derived.Test.YtkfnkppdhcaeoaaGreatDoorM34
set_option maxRecDepth 100000
set_option maxHeartbeats 32000000
set_option linter.unusedSimpArgs false
set_option linter.unusedVariables false
set_option linter.unnecessarySimpa false
namespace Go.Proofs.YtkfnkppdhcaeoaaGreatDoor
open Go renaming Calls->Cl,Value->Vl,World->Wl
section
open _root_.Go.Proofs.Tryz
open Go Go.Shelf Go.RowKit Go.Lib Tree Ptr
def KV(t:Tr)(b a:List BY):PV:=match Ah t a with
 |none=> .no 4
 |some u=>Ga t b u []
def FL(W B:Nat)(c:Vl)(a b:Vl)(j:Nat)(v:Vl):Prop:=match j with
 |0=>v= .pointer (some ⟨W,0,none⟩)
 |1=>v= .pointer (some ⟨B,4,none⟩)
 |2=>v=a
 |3=>v= .pointer (some ⟨W,0,none⟩)
 |4=>v= .pointer (some ⟨B,5,none⟩)
 |5=>v=b
 |6=>v=c
 |_=>True
def Mu(W B:Nat)(a b:Vl)(j:Nat)(v:Vl):Prop:=match j with
 |6=>False
 |7=>False
 |8=>False
 |9=>False
 |_=>FL W B .nilIface a b j v
def ao(W:Nat)(h:Vl)(bs:List Nat)(g:PV)(c:Wl)(v:Vl)(w:Wl):Prop:=
 ∃f r i a d e ys G,g= .yes f [r]/\v= .agg (BJ r.toI (.slice d r.toI.steps.length e)).toArray/\Dr c w r.toI (.slice d r.toI.steps.length e) ys G/\Hu w W f i h a/\DJ c (W::bs) (W::a)/\Chg c w (W::bs)/\∀b,b∈W::a->¬G b
theorem NF(W:Nat)(t:Tr)(v M C:Vl)(bs:List Nat)(F N:Nat->Prop)(q j:Option Addr)(c l:Nat)(ts i:List BY)(k:Int)(p f:BY)(sv:Vl)(w:Wl)(h:UI W t v M bs F (.slice q ts.length c) ts w)(J:JC w N (.slice j i.length l) i)(A:Ah t i=none):
  Cl prog 132 #[.pointer (some ⟨W,0,none⟩),.agg #[.int .i64 k,.string p,.string f,sv,.slice q ts.length c,.slice j i.length l,C]] w (BC W M (W::bs) (KV t ts i) w):=by
 have H:=hZ (Im h.laid h.wat J A);have O:Hid (KV t ts i= .no 4):=hZ (by unfold KV;rw[A]);obtain⟨B,L⟩:∃n,n=ts.length:=⟨_,rfl⟩
 obtain⟨r,z⟩:∃n,n=i.length:=⟨_,rfl⟩
 rw[<-z]at H;rw[<-L,<-z];clear h J L z A;go_enter func132,ntmps132
 go_wp2_with fail
 obtain⟨D,s⟩:∃y,y=World.drew (w.alloc (.cells #[.int .i64 k,.string p,.string f,sv,.slice q B c,.slice j r l,C] 111)):=⟨_,rfl⟩
 have P:=hZ s;have E:Hid (Chg w D []):=by rw[s];exact hZ (((Chg.refl w []).alloc _).drew)
 have G:Hid (Ac D w.heap.size [.int .i64 k,.string p,.string f,sv,.slice q B c,.slice j r l,C] 111):=by rw[s];exact hZ (Ac.new w _ _).drew
 clear s;refine wp_region_any (by kernel_rfl) ?_;change wpAny _ _ _ _ _ _ _ (World.drew _);rw[<-P.o];refine Gy _ (PX (Mu W w.heap.size (.slice q B c) (.slice j r l)) D) (by kernel_rfl) ?_ ?_ _ ?_
 .intro X op a Y Q b m aa g d K o
  match X,b with
  |0,b=>
   obtain rfl:=Q5 b;have R:a.tmps.getD 0 undef= .pointer (some ⟨W,0,none⟩):=m.at 0 (by kernel_rfl);go_simp
   exact o _ _ (by simp) (d.put (by simp[Mu,FL]) cR)
  |1,b=>
   obtain rfl:=Q5 b;have T:a.tmps.getD 3 undef= .pointer (some ⟨w.heap.size,0,none⟩):=m.at 3 (by kernel_rfl);go_simp
   exact o _ _ (by simp) (d.put (by simp[Mu,FL]) cR)
  |2,b=>
   obtain rfl:=Q5 b;have V:a.tmps.getD 6 undef= .pointer (some ⟨w.heap.size,4,none⟩):=d.2 1 (g ⟨1,.data⟩ (by simp) rfl);have u:=G.o.kept d.1;have x:=u.cell 4;simp only[Qa,Qb]at x;go_simp
   exact o _ _ (by simp) (d.put (by simp[Mu,FL]) cR)
  |3,b=>
   obtain rfl:=Q5 b;have R:a.tmps.getD 0 undef= .pointer (some ⟨W,0,none⟩):=m.at 0 (by kernel_rfl);go_simp
   exact o _ _ (by simp) (d.put (by simp[Mu,FL]) cR)
  |4,b=>
   obtain rfl:=Q5 b;have T:a.tmps.getD 3 undef= .pointer (some ⟨w.heap.size,0,none⟩):=m.at 3 (by kernel_rfl);go_simp
   exact o _ _ (by simp) (d.put (by simp[Mu,FL]) cR)
  |5,b=>
   obtain rfl:=Q5 b;have V:a.tmps.getD 9 undef= .pointer (some ⟨w.heap.size,5,none⟩):=d.2 4 (g ⟨4,.data⟩ (by simp) rfl);have u:=G.o.kept d.1;have x:=u.cell 5;simp only[Qa,Qb]at x;go_simp
   exact o _ _ (by simp) (d.put (by simp[Mu,FL]) cR)
  |6,b=>
   obtain rfl:=Q5 b;have h8:a.tmps.getD 8 undef= .pointer (some ⟨W,0,none⟩):=d.2 3 (g ⟨3,.data⟩ (by simp) rfl);have Z:a.tmps.getD 10 undef= .slice j r l:=d.2 5 (g ⟨5,.data⟩ (by simp) rfl);go_simp
   go_at_call 170;refine(H.o Y (E.o.trans d.1)).mono ?_;rintro e w1 ⟨I,S⟩;unfold By at I;subst I;rw[O.o];exact⟨m.defers,rfl,((E.o.trans d.1).trans S).none _⟩
  |7,b=>
   obtain rfl:=Q5 b;exact(d.2 6 (g ⟨6,.data⟩ (by simp) rfl):False).elim
  |8,b=>
   obtain rfl:=Q5 b;exact(d.2 7 (g ⟨7,.data⟩ (by simp) rfl):False).elim
  |9,b=>
   obtain rfl:=Q5 b;exact(d.2 8 (g ⟨8,.data⟩ (by simp) rfl):False).elim
  |10,b=>
   obtain rfl:=Q5 b;exact(d.2 9 (g ⟨9,.data⟩ (by simp) rfl):False).elim
  |_+11,b=>exact absurd b (by simp)
 .intro a wR Q m U d
  exact(d.2 6 (U 6 (by decide)):False).elim
 .exact⟨Chg.refl _ _,fun _ e=>by cases e⟩
theorem NG(W:Nat)(t u:Tr)(v V vx:Vl)(bs:List Nat)(F F2:Nat->Prop)(H R:Option Addr)(c S:Nat)(ts I:List BY)(k:Int)(p f:BY)(sv:Vl)(w:Wl)(h:UI W t v V bs F (.slice H ts.length c) ts w)(hf:JC w F2 (.slice R I.length S) I)(U:Ah t I=some u):
  Cl prog 132 #[.pointer (some ⟨W,0,none⟩),.agg #[.int .i64 k,.string p,.string f,sv,.slice H ts.length c,.slice R I.length S,vx]] w (BC W V (W::bs) (KV t ts I) w):=by
 obtain⟨vu,bu,rest,aa⟩:=EU h.wat.at_ _ I _ rfl U;have ab:=h.wat.fine.lead U;have an:=hZ (Dl h.laid h.wat hf aa);obtain⟨tu,xu,rfl⟩:=aa.at_.iface;have aH:Hid (∀A,Chg w A []->NQ (.iface tu xu) u A):=hZ fun A hx=>Xq _ u _ bu A (Q8 _) (Ar ab.fits).1 (aa.at_.chg hx (by simp))
 have HR:Hid (KV t ts I=Ga t ts u []):=hZ (by unfold KV;rw[U]);have aW:=h.wat.blk.lt;have aV:=h.big W (by simp);have aN:=AP.lt _ _ _ h.wat.at_
 have ak:Hid (∀s A X q,Chg w s []->AP A u X q->BP s q->Chg s A []->Cl prog 166 #[.pointer (some ⟨W,0,none⟩),.slice H ts.length c,X] A (Cq W V (W::(q++bs)) t u ts A)):=hZ fun s A X q h1 h2 M h4=>by
  have hz:=h1.size;have aL:=h1.trans h4;have hk:=h.kept aL;refine Xo W t u v V X bs q F H c ts A ⟨hk.laid,hk.wat,h2,ab,hk.tat, ?_,fun b E=> ?_,fun b E o=> ?_⟩
  .have hn:=h.nodup
   simp only[List.nodup_cons,List.nodup_append,Qf,not_or]at hn|-;refine⟨⟨fun hm=>by have:=M.ge _ hm;omega,hn.1⟩,M.nodup,hn.2,fun x hx y hy e=> ?_⟩;subst e;have:=M.ge _ hx;have:=aN _ hy;omega
  .rcases Qh.1 E with m|m
   .omega
   .rcases Qf.1 m with m|m
    .have:=M.ge _ m;omega
    .exact h.big b (Qg _ m)
  .rcases Qh.1 E with m|m
   .exact h.apart b (by simp[m]) o
   .rcases Qf.1 m with m|m
    .have:=M.ge _ m;have:=h.tat.lt b o;omega
    .exact h.apart b (Qg _ m) o
 have HH:=hZ h;have aQ:=hZ ab;obtain⟨aG,K⟩:∃r,r=Ga t ts u []:=⟨_,rfl⟩
 have am:=hZ K;obtain⟨tn,ad⟩:∃n,n=ts.length:=⟨_,rfl⟩
 obtain⟨fn,ai⟩:∃n,n=I.length:=⟨_,rfl⟩
 rw[<-ai]at an;rw[<-ad]at ak;have aR:=hZ ad;rw[HR.o,<-K,<-ad,<-ai];clear h hf ad ai U aa ab K;go_enter func132,ntmps132
 go_wp2_with fail
 obtain⟨s,ae⟩:∃y,y=World.drew (w.alloc (.cells #[.int .i64 k,.string p,.string f,sv,.slice H tn c,.slice R fn S,vx] 111)):=⟨_,rfl⟩
 have aI:=hZ ae;have P:Hid (Chg w s []):=by rw[ae];exact hZ (((Chg.refl w []).alloc _).drew)
 have al:Hid (Ac s w.heap.size [.int .i64 k,.string p,.string f,sv,.slice H tn c,.slice R fn S,vx] 111):=by rw[ae];exact hZ (Ac.new w _ _).drew
 clear ae;refine wp_region_any (by kernel_rfl) ?_;change wpAny _ _ _ _ _ _ _ (World.drew _);rw[<-aI.o];refine Dg _ (IL s (FL W w.heap.size (.iface tu xu) (.slice H tn c) (.slice R fn S)) (fun v w'=>∃q,AP w' u v q/\BP s q/\Chg s w' []) (ao W V bs aG s) (fun v w'=>BC W V (W::bs) aG w (.returned v) w')) (by kernel_rfl) ?_ ?_ _ ?_
 .intro ii op a wa B g o l C J d K y
  match ii,g with
  |0,g=>
   obtain rfl:=Q5 g;have h0:a.tmps.getD 0 undef= .pointer (some ⟨W,0,none⟩):=o.at 0 (by kernel_rfl);go_simp
   exact y _ _ (by simp) (d.read (by decide) l (by simp[FL]) cR (.inl rfl))
  |1,g=>
   obtain rfl:=Q5 g;have M:a.tmps.getD 3 undef= .pointer (some ⟨w.heap.size,0,none⟩):=o.at 3 (by kernel_rfl);go_simp
   exact y _ _ (by simp) (d.read (by decide) l (by simp[FL]) cR (.inl rfl))
  |2,g=>
   obtain rfl:=Q5 g;have hp:a.tmps.getD 6 undef= .pointer (some ⟨w.heap.size,4,none⟩):=d.vals 1 (by decide) (C ⟨1,.data⟩ (by simp) rfl)
   have L:B 8=false:=by
    cases e:B 8 with
    |false=>rfl
    |true=>have:=d.o8 e _ (by decide:2<8);rw[l]at this;cases this
   have ag:=al.o.kept (d.early L);have J:=ag.cell 4;simp only[Qa,Qb]at J;go_simp
   exact y _ _ (by simp) (d.read (by decide) l (by simp[FL]) cR (.inl rfl))
  |3,g=>
   obtain rfl:=Q5 g;have h0:a.tmps.getD 0 undef= .pointer (some ⟨W,0,none⟩):=o.at 0 (by kernel_rfl);go_simp
   exact y _ _ (by simp) (d.read (by decide) l (by simp[FL]) cR (.inl rfl))
  |4,g=>
   obtain rfl:=Q5 g;have M:a.tmps.getD 3 undef= .pointer (some ⟨w.heap.size,0,none⟩):=o.at 3 (by kernel_rfl);go_simp
   exact y _ _ (by simp) (d.read (by decide) l (by simp[FL]) cR (.inl rfl))
  |5,g=>
   obtain rfl:=Q5 g;have hp:a.tmps.getD 9 undef= .pointer (some ⟨w.heap.size,5,none⟩):=d.vals 4 (by decide) (C ⟨4,.data⟩ (by simp) rfl)
   have L:B 8=false:=by
    cases e:B 8 with
    |false=>rfl
    |true=>have:=d.o8 e _ (by decide:5<8);rw[l]at this;cases this
   have ag:=al.o.kept (d.early L);have J:=ag.cell 5;simp only[Qa,Qb]at J;go_simp
   exact y _ _ (by simp) (d.read (by decide) l (by simp[FL]) cR (.inl rfl))
  |6,g=>
   obtain rfl:=Q5 g
   have L:B 8=false:=by
    cases e:B 8 with
    |false=>rfl
    |true=>have:=d.o8 e _ (by decide:6<8);rw[l]at this;cases this
   have h8:a.tmps.getD 8 undef= .pointer (some ⟨W,0,none⟩):=d.vals 3 (by decide) (C ⟨3,.data⟩ (by simp) rfl);have aS:a.tmps.getD 10 undef= .slice R fn S:=d.vals 5 (by decide) (C ⟨5,.data⟩ (by simp) rfl);go_simp
   go_at_call 170;refine(an.o wa (P.o.trans (d.early L))).mono ?_;rintro e w1 ⟨rfl,h1⟩;exact y _ _ (by simp) (d.read (by decide) l rfl h1 (.inr rfl))
  |7,g=>
   obtain rfl:=Q5 g
   have L:B 8=false:=by
    cases e:B 8 with
    |false=>rfl
    |true=>have:=d.o8 e _ (by decide:7<8);rw[l]at this;cases this
   have Q:=C ⟨6,.data⟩ (by simp) rfl;have aK:a.tmps.getD 11 undef= .iface tu xu:=d.vals 6 (by decide) Q;have ah:=d.early L;obtain⟨ff,aJ,m1,m2⟩:=aH.o wa (P.o.trans ah);rw[Qr (by simp[Region.wanted])];refine I3 _ _ _ rfl _ aK ff aJ m1 _ m2 ?_;rintro e w1 ⟨X,q,rfl,q1,N,O⟩;exact⟨X,rfl,y _ _ (by simp) (d.made l Q ⟨q,q1,⟨N.nodup,fun b E=>Q7 ah.size (N.ge b E)⟩,ah.trans O⟩ O)⟩
  |8,g=>
   obtain rfl:=Q5 g;have d7:=C ⟨7,.data⟩ (by simp) rfl;have d2:=C ⟨2,.data⟩ (by simp) rfl;have Q:=d.o7 d7;have d5:=J 6 _ rfl Q ⟨5,.data⟩ (by simp) rfl
   have au:∀j,j<8->B j=true:=fun j hj=>by
    match j,hj with
    |0,_=>exact C ⟨0,.data⟩ (by simp) rfl
    |1,_=>exact J 2 _ rfl d2 ⟨1,.data⟩ (by simp) rfl
    |2,_=>exact d2
    |3,_=>exact J 6 _ rfl Q ⟨3,.data⟩ (by simp) rfl
    |4,_=>exact J 5 _ rfl d5 ⟨4,.data⟩ (by simp) rfl
    |5,_=>exact d5
    |6,_=>exact Q
    |7,_=>exact d7
   have m:a.tmps.getD 5 undef= .pointer (some ⟨W,0,none⟩):=d.vals 0 (by decide) (au 0 (by decide));have h7:a.tmps.getD 7 undef= .slice H tn c:=d.vals 2 (by decide) d2;obtain⟨q,q1,N,O⟩:=d.p7 d7 l;obtain⟨tc,xc,aq⟩:=q1.iface;rw[aq]at q1;have aT:a.tmps.getD 12 undef= .iface tc xc:=aq;have HA:=ak.o s wa _ q P.o q1 N O;go_simp
   go_at_call 166;refine HA.mono ?_;intro e w1 aO;have hz:=P.o.size
   rcases NS [] aO with⟨n,Y,T,D⟩|⟨t',Y,v',ap,aX,ys,G,T,D,g4,g5,g6,g7⟩
   .unfold By at T
    subst T;rw[am.o,Y]
    exact⟨o.defers,rfl,(P.o.none _).trans ((O.none _).step D (fun i hi U=>by
     rcases Qh.1 hi with h|h
     .simp[h]
     .rcases Qf.1 h with h|h
      .have:=N.ge i h;omega
      .exact Qg _ h))⟩
   .subst T
    obtain⟨sa,sc,rfl,_⟩:=D.row.form;have aP:=O.size
    exact y _ _ (by simp) (d.added l au ⟨t',_,v',ap,sa,sc,ys,G,am.o.trans Y,rfl,⟨D.row,D.inn,D.steps,fun b E=>by have:=D.new b E;omega⟩,g4,⟨g5.nodup,fun b E=>by
     rcases g5.come b E with h|h
     .rcases Qh.1 h with h|h
      .exact .inl (by simp[h])
      .rcases Qf.1 h with h|h
       .exact .inr (N.ge b h)
       .exact .inl (Qg _ h)
     .exact .inr (Q7 aP h)⟩,(O.none _).step g6 (fun i hi U=>by
     rcases Qh.1 hi with h|h
     .simp[h]
     .rcases Qf.1 h with h|h
      .have:=N.ge i h;omega
      .exact Qg _ h),g7⟩)
  |9,g=>
   obtain rfl:=Q5 g;have d8:=C ⟨8,.data⟩ (by simp) rfl;obtain⟨t',r,v',ap,sa,sc,ys,G,Y,T,D,g4,g5,g6,g7⟩:=d.p8 d8 l;have ar:a.tmps.getD 13 undef= .agg (BJ r.toI (.slice sa r.toI.steps.length sc)).toArray:=T;unfold BJ at ar;have aU:a.tmps[13]?.getD undef= .agg [Vl.int .i64 r.toI.kind,.string r.toI.path,.string r.toI.frm,.slice sa r.toI.steps.length sc].toArray:=by rw[<-Qp];exact ar
   go_simp
   refine y _ _ (by simp) (d.built l d8 ?_);rw[Y];exact GC P.o D g4 g5 g6 g7 (Ac.new wa (BJ r.toI (.slice sa r.toI.steps.length sc)) 42) (Q8 _) ((Chg.refl wa []).alloc _)
  |10,g=>
   obtain rfl:=Q5 g;have d9:=C ⟨9,.data⟩ (by simp) rfl;have aM:=d.end_ d9;go_simp
   exact y _ _ (by simp) (by rw[<-Qp];exact aM)
  |_+11,g=>exact absurd g (by simp)
 .intro a wR B o hd d
  have K:=d.p9 (hd 9 (by decide));rw[<-d.p10 (hd 10 (by decide))]at K;change BC _ _ _ _ _ (.returned (a.tmps.getD 4 undef)) wR at K;have af:=hZ K;clear d hd K;have Z:=o.form' [5,6,7,8,9,10,11,12,13,14,4] (by kernel_rfl);have av:=o.defers;obtain⟨z,df⟩:=a;clear o
  dsimp only at Z av af
  simp only[List.foldl_cons,List.foldl_nil]at Z;obtain⟨u5,aB⟩:∃x,x=z.getD 5 undef:=⟨_,rfl⟩
  obtain⟨u6,aC⟩:∃x,x=z.getD 6 undef:=⟨_,rfl⟩
  obtain⟨u7,aD⟩:∃x,x=z.getD 7 undef:=⟨_,rfl⟩
  obtain⟨u8,aE⟩:∃x,x=z.getD 8 undef:=⟨_,rfl⟩
  obtain⟨u9,aF⟩:∃x,x=z.getD 9 undef:=⟨_,rfl⟩
  obtain⟨u10,aw⟩:∃x,x=z.getD 10 undef:=⟨_,rfl⟩
  obtain⟨u11,ax⟩:∃x,x=z.getD 11 undef:=⟨_,rfl⟩
  obtain⟨u12,ay⟩:∃x,x=z.getD 12 undef:=⟨_,rfl⟩
  obtain⟨u13,az⟩:∃x,x=z.getD 13 undef:=⟨_,rfl⟩
  obtain⟨u14,aA⟩:∃x,x=z.getD 14 undef:=⟨_,rfl⟩
  obtain⟨u4,aj⟩:∃x,x=z.getD 4 undef:=⟨_,rfl⟩
  rw[<-aB,<-aC,<-aD,<-aE,<-aF,<-aw,<-ax,<-ay,<-az,<-aA,<-aj]at Z;rw[<-aj]at af;clear aB aC aD aE aF aw ax ay az aA aj;simp only[List.setIfInBounds_toArray,List.set_cons_zero,List.set_cons_succ]at Z;subst Z;subst av;go_wp2_with fail
  refine bodyPost_ret (results_tmp rfl _ _ _) rfl ?_;exact af.o
 .exact⟨fun _=>Chg.refl _ _,(fun _ _ e=>by cases e),(fun e=>by cases e),(fun e=>by cases e),(fun e=>by cases e),(fun e=>by cases e),(fun e=>by cases e),(fun e=>by cases e),(fun e=>by cases e),(fun e=>by cases e)⟩
def Rl(W B:Nat)(a c b:Vl)(j:Nat)(v:Vl):Prop:=match j with
 |0=>v=a
 |1=>v= .pointer (some ⟨W,0,none⟩)
 |2=>v= .pointer (some ⟨B,4,none⟩)
 |3=>v=b
 |4=>v=c
 |_=>True
def an(W:Nat)(j:Vl)(d:List Nat)(i:PV)(h:CW)(c:Wl)(v:Vl)(w:Wl):Prop:=
 ∃g r k a e f ys G,i= .yes g [r,h]/\v= .agg (BJ r.toI (.slice e r.toI.steps.length f)).toArray/\Dr c w r.toI (.slice e r.toI.steps.length f) ys G/\Hu w W g k j a/\DJ c d (W::a)/\Chg c w d/\∀b,b∈W::a->¬G b
theorem Pk(W:Nat)(t u:Tr)(v C vx:Vl)(bs:List Nat)(F F2:Nat->Prop)(E N:Option Addr)(c O:Nat)(ts j:List BY)(k:Int)(p f:BY)(sv:Vl)(w:Wl)(h:UI W t v C bs F (.slice E ts.length c) ts w)(hf:UI W t v C bs F2 (.slice N j.length O) j w)(aR:j≠[])(br:f.size<=16777216)(hi:EV p f=false)(aS:p≠f)(P:Ah t j=some u):
  Cl prog 131 #[.pointer (some ⟨W,0,none⟩),.agg #[.int .i64 k,.string p,.string f,sv,.slice E ts.length c,.slice N j.length O,vx]] w (BC W C (W::bs) (FR t p f ts j) w):=by
 have hr:FR t p f ts j=Ga (A8 t j) ts u [⟨1,A6 j,Dz,Ai u⟩]:=by unfold FR;rw[Qs (by simp[hi]),P];dsimp only;rw[Qs aS]
 have hp:=GR p f;rw[hi]at hp
 have HP:Hid (∀l,Cl prog 169 #[.string p,.string (f++⟨#[47]⟩)] l fun e w'=>e= .returned (.bool false)/\w'=l):=hZ fun l=>by
  have:=EH p (f++⟨#[47]⟩) l;rw[hp]at this;exact this
 obtain⟨bB,bi,bx,aO⟩:=EU h.wat.at_ _ j _ rfl P;have ak:=hZ (Dl h.laid h.wat hf.tat aO);have aP:=h.wat.fine.lead P;have bd:=AP.lt _ _ _ h.wat.at_;have bp:=h.wat.blk.lt;have bo:=h.big W (by simp)
 have af:Hid (∀l,Chg w l []->Cl prog 167 #[.pointer (some ⟨W,0,none⟩),.slice N j.length O] l (T6 W C (W::bs) (A8 t j) u (AC 1 j (Ai u)) l)):=hZ fun l hx=>by
  have:=Xw W t v C bs F2 N O j l (hf.kept hx) aR;rwa[JF P]at this
 obtain⟨Z,au⟩:∃Z,Z=A8 t j:=⟨_,rfl⟩
 obtain⟨H,aq⟩:∃H,H=(⟨1,A6 j,Dz,Ai u⟩:CW):=⟨_,rfl⟩
 rw[<-au,<-aq]at hr;rw[<-au,show AC 1 j (Ai u)=H.toI by rw[aq];rfl]at af
 have ai:Hid (∀l vu B v1 A,Chg w l (W::bs)->AP l u vu B->Hu l W Z v1 C A->DJ w (W::bs) (W::(B++A))->Cl prog 166 #[.pointer (some ⟨W,0,none⟩),.slice E ts.length c,vu] l (Cq W C (W::(B++A)) Z u ts l)):=hZ fun l vu B v1 A h1 h2 h3 h4=>by
  have hz:=h1.size;refine Xo W Z u v1 C vu A B F E c ts l ⟨h.laid.kept h1 h.big,h3,h2,aP,h.tat.kept h1 h.apart,h4.nodup,fun b hb=> ?_,fun b hb q=> ?_⟩
  .rcases h4.come b hb with V|V
   .exact h.big b V
   .omega
  .rcases h4.come b hb with V|V
   .exact h.apart b V q
   .have:=h.tat.lt b q;omega
 obtain⟨a2,ar⟩:∃r,r=Ga Z ts u [H]:=⟨_,rfl⟩
 have aC:=hZ ar;rw[hr,<-ar];obtain⟨tn,av⟩:∃n,n=ts.length:=⟨_,rfl⟩
 obtain⟨fn,ah⟩:∃n,n=j.length:=⟨_,rfl⟩
 obtain⟨m,ab⟩:∃o,o=H.toI:=⟨_,rfl⟩
 have a5:=hZ ab;rw[<-ah,<-ab]at af;rw[<-ah]at ak;rw[<-av]at ai;rw[<-av,<-ah];have HH:=hZ h;have bf:¬p.toList=f.toList:=fun e=>aS (DK (by rwa[Lib.toList_data,Lib.toList_data]at e))
 have bt:(p.toList==f.toList)=false:=by simpa using bf
 clear hr hp hi h hf P aO aP ah av ar ab au aq aR;go_enter func131,ntmps131
 go_wp2_with(first
  |(go_at_call 169;refine(HP.o _).mono ?_;rintro e w1 ⟨rfl,rfl⟩)
  |(go_at_call_of 53 (Vl.bool true);refine(Bv _ _).mono ?_;rintro e D ⟨rfl,rfl⟩)
  |(go_at_call 170;refine(ak.o _ (by exact cg cR)).mono ?_;rintro e w2 ⟨rfl,h⟩;have H2:Hid (Chg w w2 []):=hZ (ct cR h);have R:Hid (Ac w2 w.heap.size [.int .i64 k,.string p,.string f,sv,.slice E tn c,.slice N fn O,vx] 111):=hZ ((Ac.new w [.int .i64 k,.string p,.string f,sv,.slice E tn c,.slice N fn O,vx] 111).kept h);have x1:=R.o.cell 1;have x2:=R.o.cell 2;have x5:=R.o.cell 5;simp only[Qa,Qb]at x1 x2 x5;clear h)
  |(go_at_call 167;refine(af.o _ (by exact cg H2.o)).mono ?_;rintro e z ⟨vu,B,v1,A,bz,bh,G1,rfl,k1,k2,k3,k4,k5,k6⟩;have ae:Hid (Chg w2 z (W::bs)):=hZ (ct cR k5);have a8:=hZ k5.size;have K1:=hZ k1;have K2:=hZ k2;have K3:=hZ k3;have K4:=hZ k4;have K6:=hZ k6;obtain⟨J,L,rfl,_⟩:=k1.row.form;clear k1 k2 k3 k4 k5 k6)
  |(refine Ae rfl _ _ _ rfl z.heap.size (BJ m (.slice J m.steps.length L)) (by rfl) (by rfl) 42 Ef (by exact Ac.new z Ef 42) A0 rfl (Dx _ _ _ _) ?_;intro w7 a1 aK aQ;have az:=hZ aK;have aA:=hZ aQ;have aD:=hZ a1;clear a1 aK aQ))
 have ax:=aD.o;have ax:w7.heap.size=z.heap.size+1:=by simpa using ax
 have a0:=H2.o.size;have bu:=ae.o.size;have bv:=a8.o;have bq:=R.o.lt;have aG:Chg z w7 []:=(Chg.step (Chg.alloc cR _) aA.o (fun i hi P=>by simp at hi;omega));obtain⟨D,ad⟩:∃y,y=World.drew w7:=⟨_,rfl⟩
 have a7:=hZ ad;have U:Chg z D []:=by rw[ad];exact aG.drew
 have bw:D.heap.size=z.heap.size+1:=by rw[ad];exact ax
 have aJ:Ac D z.heap.size (BJ m (.slice J m.steps.length L)) 42:=by rw[ad];exact az.o.drew
 have al:Chg w D (W::bs):=(H2.o.none _).trans (ae.o.trans (U.none _))
 have be:∀y,y∈W::bs->y<w.heap.size:=fun y hy=>by
  rcases Qh.1 hy with h|h
  .omega
  .exact bd y h
 have aL:Ac D w.heap.size [.int .i64 k,.string p,.string f,sv,.slice E tn c,.slice N fn O,vx] 111:=(R.o.kept ae.o (fun hm=>Nat.lt_irrefl _ (be _ hm))).kept U;have am:DJ w (W::bs) (W::(B++A)):=K4.o.back a0;have aM:Dr w D m (.slice J m.steps.length L) bh G1:=K1.o.keptG (w0:=w) U (by simp) a0;have ao:=K2.o.chg U (by simp);have aN:=K3.o.kept U;obtain⟨tu,xu,rfl⟩:=ao.iface;have aI:=ai.o D _ B v1 A al ao aN am
 have bc:z.heap.size∉W::(B++A):=fun hm=>by
  rcases Qh.1 hm with h|h
  .have:=K3.o.blk.lt;omega
  .rcases Qf.1 h with h|h
   .have:=AP.lt _ _ _ K2.o _ h;omega
   .have:=AP.lt _ _ _ K3.o.at_ _ h;omega
 have H4:=hZ al;have ay:=hZ aJ;have a4:=hZ aL;have aB:=hZ am;have a6:=hZ aM;have a3:=hZ aI;clear ad aG U aJ al aL am aM ao aN aI aD az aA ae H2 R x1 x2 x5 K1 K2 K3 K4 ak af HP ai;refine wp_region_any (by kernel_rfl) ?_;change wpAny _ _ _ _ _ _ _ (World.drew _);rw[<-a7.o];refine Dg _ (Kf D (Rl W w.heap.size (.agg (BJ m (.slice J m.steps.length L)).toArray) (.iface tu xu) (.slice E tn c)) (an W C (W::(B++A)) a2 H D) (fun v w'=>BC W C (W::bs) a2 w (.returned v) w')) (by kernel_rfl) ?_ ?_ _ ?_
 .intro ii op a wa s g q Y Q aa d K I
  match ii,g with
  |0,g=>
   obtain rfl:=Q5 g;have h6:a.tmps.getD 6 undef= .pointer (some ⟨z.heap.size,0,none⟩):=q.at 6 (by kernel_rfl)
   have a9:Ac wa z.heap.size (BJ m (.slice J m.steps.length L)) 42:=by
    cases e5:s 5 with
    |false=>rw[d.early e5];exact ay.o
    |true=>
     cases e6:s 6 with
     |false=>
      obtain⟨_,_,_,_,_,_,_,_,_,_,_,_,_,g6,_⟩:=d.p5 e5 e6;exact ay.o.kept g6 bc
     |true=>have:=aa 6 _ rfl e6 ⟨0,.data⟩ (by simp) rfl;rw[Y]at this;cases this
   obtain⟨_,_,y0,y1,y2,y3⟩:=a9.cells4;go_simp
   exact I _ _ (by simp) (d.read (by decide) rfl)
  |1,g=>
   obtain rfl:=Q5 g;have h0:a.tmps.getD 0 undef= .pointer (some ⟨W,0,none⟩):=q.at 0 (by kernel_rfl);go_simp
   exact I _ _ (by simp) (d.read (by decide) (by simp[Rl]))
  |2,g=>
   obtain rfl:=Q5 g;have h3:a.tmps.getD 3 undef= .pointer (some ⟨w.heap.size,0,none⟩):=q.at 3 (by kernel_rfl);go_simp
   exact I _ _ (by simp) (d.read (by decide) (by simp[Rl]))
  |3,g=>
   obtain rfl:=Q5 g;have hp:a.tmps.getD 37 undef= .pointer (some ⟨w.heap.size,4,none⟩):=d.vals 2 (by decide) (Q ⟨2,.data⟩ (by simp) rfl)
   have e5:s 5=false:=by
    cases e:s 5 with
    |false=>rfl
    |true=>have:=aa 5 _ rfl e ⟨3,.data⟩ (by simp) rfl;rw[Y]at this;cases this
   have hw:=d.early e5;subst hw;have ba:=a4.o.cell 4;simp only[Qa,Qb]at ba;go_simp
   exact I _ _ (by simp) (d.read (by decide) (by simp[Rl]))
  |4,g=>
   obtain rfl:=Q5 g;have V:a.tmps.getD 5 undef= .iface tu xu:=q.at 5 (by kernel_rfl);go_simp
   exact I _ _ (by simp) (d.read (by decide) (by simp[Rl]))
  |5,g=>
   obtain rfl:=Q5 g;have bk:a.tmps.getD 36 undef= .pointer (some ⟨W,0,none⟩):=d.vals 1 (by decide) (Q ⟨1,.data⟩ (by simp) rfl);have bl:a.tmps.getD 38 undef= .slice E tn c:=d.vals 3 (by decide) (Q ⟨3,.data⟩ (by simp) rfl);have bm:a.tmps.getD 39 undef= .iface tu xu:=d.vals 4 (by decide) (Q ⟨4,.data⟩ (by simp) rfl);have hw:=d.early Y;subst hw
   have e6:s 6=false:=by
    cases e:s 6 with
    |false=>rfl
    |true=>have:=aa 6 _ rfl e ⟨5,.data⟩ (by simp) rfl;rw[Y]at this;cases this
   have e7:s 7=false:=by
    cases e:s 7 with
    |false=>rfl
    |true=>have:=aa 7 _ rfl e ⟨6,.data⟩ (by simp) rfl;rw[e6]at this;cases this
   go_simp
   go_at_call 166;refine a3.o.mono ?_;intro e w1 bg
   rcases NS [H] bg with⟨n,g1,S,T⟩|⟨t',g1,v',aE,bA,ys,G,S,T,g4,g5,g6,g7⟩
   .unfold By at S
    subst S;rw[aC.o,g1];have hz:=H4.o.size;exact⟨q.defers,rfl,H4.o.step T (fun i hi P=>by rcases aB.o.come i hi with h|h;exact h;omega)⟩
   .subst S
    obtain⟨sa,sc,rfl,_⟩:=T.row.form;exact I _ _ (by simp) (d.added e6 e7 ⟨t',_,v',aE,sa,sc,ys,G,aC.o.trans g1,rfl,T,g4,g5,g6,g7⟩)
  |6,g=>
   obtain rfl:=Q5 g;have d5:=Q ⟨5,.data⟩ (by simp) rfl;have d0:=Q ⟨0,.data⟩ (by simp) rfl
   have e7:s 7=false:=by
    cases e:s 7 with
    |false=>rfl
    |true=>have:=aa 7 _ rfl e ⟨6,.data⟩ (by simp) rfl;rw[Y]at this;cases this
   obtain⟨t',r,v',aE,sa,sc,ys,G,g1,S,T,g4,g5,g6,g7⟩:=d.p5 d5 Y;have aH:a.tmps.getD 40 undef= .agg (BJ r.toI (.slice sa r.toI.steps.length sc)).toArray:=S;have aF:a.tmps.getD 35 undef= .agg (BJ m (.slice J m.steps.length L)).toArray:=d.vals 0 (by decide) d0;unfold BJ at aH aF;have bn:a.tmps[40]?.getD undef= .agg [Vl.int .i64 r.toI.kind,.string r.toI.path,.string r.toI.frm,.slice sa r.toI.steps.length sc].toArray:=by rw[<-Qp];exact aH
   have bj:a.tmps[35]?.getD undef= .agg [Vl.int .i64 m.kind,.string m.path,.string m.frm,.slice J m.steps.length L].toArray:=by rw[<-Qp];exact aF
   have HU:=a6.o;go_simp
   refine I _ _ (by simp) (d.built d5 e7 ?_);have ab:=a5.o;subst ab;rw[g1];exact Yn HU aB.o H4.o (fun b hb=>K6.o b hb) T g4 g5 g6 g7 (Ac.new wa (BJ H.toI (.slice J H.toI.steps.length L)++BJ r.toI (.slice sa r.toI.steps.length sc)) 42) (Q8 _) ((Chg.refl wa []).alloc _)
  |7,g=>
   obtain rfl:=Q5 g;have d6:=Q ⟨6,.data⟩ (by simp) rfl;have bb:=d.end_;go_simp
   exact I _ _ (by simp) (by rw[<-Qp];exact bb)
  |_+8,g=>exact absurd g (by simp)
 .intro a wR s q hd d
  have ag:=d.p6 (hd 6 (by decide));rw[<-d.p7 (hd 7 (by decide))]at ag;change BC _ _ _ _ _ (.returned (a.tmps.getD 4 undef)) wR at ag;have aj:=hZ ag;clear d hd ag;have X:=q.form' [35,36,37,38,39,40,41,4] (by kernel_rfl);have ap:=q.defers;obtain⟨M,df⟩:=a;clear q
  dsimp only at X ap aj
  simp only[List.foldl_cons,List.foldl_nil]at X;obtain⟨u35,aT⟩:∃x,x=M.getD 35 undef:=⟨_,rfl⟩
  obtain⟨u36,aU⟩:∃x,x=M.getD 36 undef:=⟨_,rfl⟩
  obtain⟨u37,aV⟩:∃x,x=M.getD 37 undef:=⟨_,rfl⟩
  obtain⟨u38,aW⟩:∃x,x=M.getD 38 undef:=⟨_,rfl⟩
  obtain⟨u39,aX⟩:∃x,x=M.getD 39 undef:=⟨_,rfl⟩
  obtain⟨u40,aY⟩:∃x,x=M.getD 40 undef:=⟨_,rfl⟩
  obtain⟨u41,aZ⟩:∃x,x=M.getD 41 undef:=⟨_,rfl⟩
  obtain⟨u4,aw⟩:∃x,x=M.getD 4 undef:=⟨_,rfl⟩
  rw[<-aT,<-aU,<-aV,<-aW,<-aX,<-aY,<-aZ,<-aw]at X;rw[<-aw]at aj;clear aT aU aV aW aX aY aZ aw
  dsimp only[Act.put]at X ap
  simp only[List.setIfInBounds_toArray,List.set_cons_zero,List.set_cons_succ]at X;subst X;subst ap;go_wp2_with fail
  refine bodyPost_ret (results_tmp rfl _ _ _) rfl ?_;exact aj.o
 .exact⟨fun _=>rfl,(fun _ _ e=>by cases e),(fun e=>by cases e),(fun e=>by cases e),(fun e=>by cases e)⟩
def CP(k:Int):Bool:=decide (1<=k/\k<=6)
theorem Jm(k:Int)(w:Wl):Cl prog 90 #[.int .i64 k] w fun e w'=>e= .returned (.tuple #[.bool (AO k),.bool (AN k),.bool (CP k)])/\Chg w w' []:=by
 have o:AO k=(decide (k=4)||decide (k=5)):=rfl;have p:AN k=(decide (k=1)||decide (k=3)||decide (k=6)):=rfl;by_cases a:k=1
 .subst a
  go_enter func90,ntmps90
  go_wp2
  exact bodyPost_ret (results_tmp3 rfl _ _ _) rfl ⟨rfl,Chg.refl _ _⟩
 by_cases b:k=2
 .subst b
  go_enter func90,ntmps90
  go_wp2
  exact bodyPost_ret (results_tmp3 rfl _ _ _) rfl ⟨rfl,Chg.refl _ _⟩
 by_cases c:k=3
 .subst c
  go_enter func90,ntmps90
  go_wp2
  exact bodyPost_ret (results_tmp3 rfl _ _ _) rfl ⟨rfl,Chg.refl _ _⟩
 by_cases d:k=4
 .subst d
  go_enter func90,ntmps90
  go_wp2
  exact bodyPost_ret (results_tmp3 rfl _ _ _) rfl ⟨rfl,Chg.refl _ _⟩
 by_cases f:k=5
 .subst f
  go_enter func90,ntmps90
  go_wp2
  exact bodyPost_ret (results_tmp3 rfl _ _ _) rfl ⟨rfl,Chg.refl _ _⟩
 by_cases g:k=6
 .subst g
  go_enter func90,ntmps90
  go_wp2
  exact bodyPost_ret (results_tmp3 rfl _ _ _) rfl ⟨rfl,Chg.refl _ _⟩
 have h:decide (k=1)=false:=by simpa using a
 have q:decide (k=2)=false:=by simpa using b
 have i:decide (k=3)=false:=by simpa using c
 have j:decide (k=4)=false:=by simpa using d
 have l:decide (k=5)=false:=by simpa using f
 have m:decide (k=6)=false:=by simpa using g
 have n:CP k=false:=by unfold CP;rw[decide_eq_false_iff_not];omega
 rw[o,p,n,h,i,j,l,m];go_enter func90,ntmps90
 go_wp2
 exact bodyPost_ret (results_tmp3 rfl _ _ _) rfl ⟨rfl,Chg.refl _ _⟩
def HJ(W:Nat):List Vl:=[128,129,130,131,132,133].map fun n=> .func (.func n) #[.pointer (some ⟨W,0,none⟩)] #[]
theorem ZA(W:Nat)(w:Wl):Cl prog 77 #[.pointer (some ⟨W,0,none⟩)] w fun e w'=>e= .returned (.slice (some ⟨w.heap.size,0,none⟩) 6 6)/\Ac w' w.heap.size (HJ W) 163/\Chg w w' []:=by
 go_enter func77,ntmps77
 go_wp2
 refine bodyPost_ret (results_tmp rfl _ _ _) rfl ⟨rfl, ?_,by exact cg cR⟩;exact Ac.new w (HJ W) _
structure UH(w:Wl)(o:Bq)(path frm:List BY)(x:Tr)(slp slf vx:Vl)(bx:List Nat)(F F2:Nat->Prop):Prop where
 tpath:JC w F slp path
 tfrm:AO o.kind=true->JC w F2 slf frm
 val:AN o.kind=true->AP w x vx bx/\Bt x
 pathP:AD o.path=some path
 frmP:AO o.kind=true->AD o.frm=some frm
 small:o.frm.size<=16777216
theorem BC.mono{W:Nat}{g:Vl}{d f:List Nat}{c:PV}{w w':Wl}{e:Ending}(h:BC W g d c w e w')(a:∀b,b∈d->b∈f):BC W g f c w e w':=by
 unfold BC at h|-
 cases c with
 |no n=>exact⟨h.1,h.2.mono fun _ _=>a _⟩
 |yes s t=>
  obtain⟨r,i,q,xs,G,j,k,l,m,o,p⟩:=h;exact⟨r,i,q,xs,G,j,k,l,m.mono a,o.mono fun _ _=>a _,p⟩
theorem Z1{k:Int}(h:CP k=true):k=1\/k=2\/k=3\/k=4\/k=5\/k=6:=by
 unfold CP at h;have:=of_decide_eq_true h;omega
theorem aD(W:Nat)(t:Tr)(v g:Vl)(bs:List Nat)(o:Bq)(a d:List BY)(x:Tr)(sv slp B i:Vl)(j:List Nat)(F s:Nat->Prop)(w:Wl)(C:Br w)(D:Hu w W t v g bs)(f:UH w o a d x slp B i j F s)(M:(W::(j++bs)).Nodup)(H:∀b,b∈W::(j++bs)->10<=b)(K:∀b,b∈W::(j++bs)->¬F b)(O:∀b,b∈W::(j++bs)->¬s b)(S:CP o.kind=true):
  ∃n:Nat,(HJ W)[(o.kind-1).toNat]? =some (.func (.func n) #[.pointer (some ⟨W,0,none⟩)] #[])/\
   Cl prog n #[.pointer (some ⟨W,0,none⟩),.agg #[.int .i64 o.kind,.string o.path,.string o.frm,sv,slp,B,i]] w (BC W g (W::(j++bs)) (Da t o a d x) w):=by
 have r:∀b,b∈W::bs->b∈W::(j++bs):=fun b q=>by
  rcases Qh.1 q with h|h
  .simp[h]
  .simp[h]
 have I:(W::bs).Nodup:=M.sublist (by simp);obtain⟨p,c,rfl,_⟩:=f.tpath.row.cell;rw[Ao]at f|-;have E:UI W t v g bs F (.slice p a.length c) a w:=⟨C,D,f.tpath,I,fun b q=>H b (r b q),fun b q=>K b (r b q)⟩;have G:AN o.kind=true->Sx W t x v g i bs j F (.slice p a.length c) a w:=fun m=>⟨C,D,(f.val m).1,(f.val m).2,f.tpath,M,H,K⟩
 rcases Z1 S with e|e|e|e|e|e
 .refine⟨128,by rw[e];rfl, ?_⟩
  have k:Da t o a d x=Ga t a x []:=by unfold Da;rw[Qr e]
  rw[k];exact YG W t x v g i bs j F p c a _ _ _ sv B w (G (by rw[e];rfl))
 .refine⟨129,by rw[e];rfl, ?_⟩
  have k:Da t o a d x=YN t a:=by unfold Da YN;rw[Qs (by omega),Qr e];rfl
  rw[k];exact(Tw W t v g bs F p c a _ _ _ sv B i w E).mono fun e w' h=>h.mono r
 .refine⟨130,by rw[e];rfl, ?_⟩
  have k:Da t o a d x=Uq t a x:=by unfold Da Uq;rw[Qs (by omega),Qs (by omega),Qr e];rfl
  rw[k];exact Ry W t x v g i bs j F p c a _ _ _ sv B w (G (by rw[e];rfl))
 .refine⟨131,by rw[e];rfl, ?_⟩
  have k:Da t o a d x=FR t o.path o.frm a d:=by unfold Da FR;rw[Qs (by omega),Qs (by omega),Qs (by omega),Qr e];rfl
  rw[k];have m:AO o.kind=true:=by rw[e];rfl
  have l:=f.tfrm m;have R:=f.frmP m;obtain⟨y,z,rfl,_⟩:=l.row.cell;rw[Ao]at l|-;have Q:UI W t v g bs s (.slice y d.length z) d w:=⟨C,D,l,I,fun b q=>H b (r b q),fun b q=>O b (r b q)⟩;by_cases hi:EV o.path o.frm=true
  .exact Rw W g sv i _ _ _ t a d _ _ _ w f.small hi
  .have hi:EV o.path o.frm=false:=by simpa using hi
   cases A:Ah t d with
   |none=>exact Rx W t v g i bs s y z a d _ _ _ sv _ _ w C D l f.small hi A
   |some u=>
    by_cases J:o.path=o.frm
    .rw[J]at hi|-
     exact(NH W t u v g i bs s y z a d _ _ sv _ w C D I l f.small hi A).mono fun e w' h=>h.mono r
    .have T:d≠[]:=fun N=>by
      have L:=(D7 R).1 N;rw[L]at hi;have P:=Jb f.pathP hi;exact J (by rw[L];exact(D7 f.pathP).1 P)
     exact(Pk W t u v g i bs F s p y c z a d _ _ _ sv w E Q T f.small hi J A).mono fun e w' h=>h.mono r
 .refine⟨132,by rw[e];rfl, ?_⟩
  have k:Da t o a d x=KV t a d:=by unfold Da KV;rw[Qs (by omega),Qs (by omega),Qs (by omega),Qs (by omega),Qr e];rfl
  rw[k];have m:AO o.kind=true:=by rw[e];rfl
  have l:=f.tfrm m;obtain⟨y,z,rfl,_⟩:=l.row.cell;rw[Ao]at l|-
  cases A:Ah t d with
  |none=>exact(NF W t v g i bs F s p y c z a d _ _ _ sv w E l A).mono fun e w' h=>h.mono r
  |some u=>exact(NG W t u v g i bs F s p y c z a d _ _ _ sv w E l A).mono fun e w' h=>h.mono r
 .refine⟨133,by rw[e];rfl, ?_⟩
  have k:Da t o a d x=M6 t a x:=by unfold Da M6;rw[Qs (by omega),Qs (by omega),Qs (by omega),Qs (by omega),Qs (by omega)];rfl
  rw[k];have m:AN o.kind=true:=by rw[e];rfl
  exact Xr W t x v g i bs j F p c a _ _ _ sv B (f.val m).2.good w (G m)
theorem M9(t:Tr)(F:Nat->Prop)(d:Nat)(w:Wl)(h:CG w F d t)(g:∀b,F b->b<w.heap.size)(x:(Ag t).nodes<=65536):
  Cl prog 68 #[.pointer (some ⟨d,0,none⟩)] w (Ht t w):=by
 obtain⟨v,k,hi,u⟩:=h;have p:Hid (∀a,Chg w a []->Cl prog 116 #[.agg #[v]] a (Ht t a)):=hZ fun a c=>Vt _ t F v a (Q8 _) x (hi.kept (c.keepsF g) (fun _ h=>h)) (fun b i=>Q6 (g b i) c.size)
 have o:Hid (∀a,Chg w a []->Cl prog 30 #[.pointer (some ⟨d,0,none⟩)] a fun e w'=>e= .returned (.agg #[v])/\Chg a w' []):=hZ fun a c=>IG F d v a (c.keeps k) (hi.iface) (Q6 u c.size)
 obtain⟨A,C,rfl⟩:=hi.iface;clear hi k g;go_enter func68,ntmps68
 go_wp2_with(first
  |(go_at_call 30;refine(o.o _ cR).mono ?_;rintro e B ⟨rfl,j⟩;have f:=hZ j;clear j)
  |(go_at_call 116;refine(p.o _ f.o).mono ?_;rintro e w2 ⟨y,G,rfl,l,m,n⟩;have q:=hZ l;have r:=hZ m;have s:=hZ n;clear l m n))
 refine bodyPost_ret (results_tmp rfl _ _ _) rfl ?_;have z:=f.o.size;exact⟨y,G,rfl,q.o,f.o.trans r.o,fun b i=>by have:=s.o b i;omega⟩
theorem RF(o:Bq)(a:Option Addr)(n c:Nat)(w:Wl)(j:CP o.kind=false):
  Cl prog 52 #[.agg #[.int .i64 o.kind,.string o.path,.string o.frm,.slice a n c]] w (AZ 170 [] w):=by
 have f:Hid (∀b,Cl prog 90 #[.int .i64 o.kind] b fun e w'=>e= .returned (.tuple #[.bool (AO o.kind),.bool (AN o.kind),.bool false])/\Chg b w' []):=hZ fun b=>by
  have:=Jm o.kind b;rwa[j]at this
 obtain⟨k,d⟩:∃k,k=o.kind:=⟨_,rfl⟩
 obtain⟨s,l⟩:∃k,k=AO o.kind:=⟨_,rfl⟩
 obtain⟨t,m⟩:∃k,k=AN o.kind:=⟨_,rfl⟩
 rw[<-l,<-m,<-d]at f;rw[<-d];clear j l m d;go_enter func52,ntmps52
 go_wp2_with(first
  |(go_at_call 90;refine(f.o _).mono ?_;rintro e r ⟨rfl,g⟩;have p:Hid (Chg w r []):=hZ (ct cR g);clear g)
  |(go_at_call 53;refine(Bu _ _).mono ?_;rintro e w2 ⟨i,h⟩;unfold By at i;subst i;have q:Hid (Chg w w2 []):=hZ (ct p.o h);clear h))
 exact⟨rfl,rfl,q.o⟩
end
end Go.Proofs.YtkfnkppdhcaeoaaGreatDoor

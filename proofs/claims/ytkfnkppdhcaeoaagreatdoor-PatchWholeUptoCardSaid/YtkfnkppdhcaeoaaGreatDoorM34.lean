/- Part 34 of the proof of patchJoined_card. -/
import Derived.Test.YtkfnkppdhcaeoaaGreatDoorM33
set_option maxRecDepth 100000
set_option maxHeartbeats 32000000
set_option linter.unusedSimpArgs false
set_option linter.unusedVariables false
set_option linter.unnecessarySimpa false
namespace Go.Proofs.YtkfnkppdhcaeoaaGreatDoor
open Go renaming Calls->Cl,TypeId->Ti,Value->Vl,World->Wl
section
open _root_.Go.Proofs.Tryz
open Go Go.Shelf Go.RowKit Go.Lib Tree Ptr
def YN(t:Tr)(a:List BY):PV:=if a=[]then .no 176 else match Ah t a with
 |none=> .no 4
 |some u=> .yes (A8 t a) [⟨1,A6 a,Dz,Ai u⟩]
theorem Tw(W:Nat)(t:Tr)(v j:Vl)(bs:List Nat)(F:Nat->Prop)(a:Option Addr)(c:Nat)(ts:List BY)(k:Int)(p f:BY)(sv ad vx:Vl)(w:Wl)(h:UI W t v j bs F (.slice a ts.length c) ts w):
  Cl prog 129 #[.pointer (some ⟨W,0,none⟩),.agg #[.int .i64 k,.string p,.string f,sv,.slice a ts.length c,ad,vx]] w (BC W j (W::bs) (YN t ts) w):=by
 unfold YN;by_cases n:ts=[]
 .subst n
  rw[Qr rfl,Hz];clear h;go_enter func129,ntmps129
  go_wp2_with(first
   |(go_at_call 53;refine(Bu _ _).mono ?_;rintro e w2 ⟨l,h⟩;unfold By at l;subst l;have y:Hid (Chg w w2 []):=hZ (ct cR h);clear h))
  exact⟨rfl,rfl,y.o.none _⟩
 .rw[Qs n]
  have L:0<ts.length:=List.length_pos_iff.2 n;have aa:ts.length<=65536:=h.tat.ok.many;have g:Hid (∀d,Chg w d []->Cl prog 167 #[.pointer (some ⟨W,0,none⟩),.slice a ts.length c] d (EC W j (W::bs) t ts d)):=hZ fun d hx=>Xw W t v j bs F a c ts d (h.kept hx) n
  obtain⟨m,K⟩:∃m,m=ts.length:=⟨_,rfl⟩
  rw[<-K]at g L aa|-;have af:(0:Int)<m:=by omega
  have hd:decide (0<m)=true:=by simpa using L
  clear h K n
  cases s:Ah t ts with
  |none=>
   rw[Hz];rw[show EC W j (W::bs) t ts=fun d=>AZ 4 (W::bs) d from funext fun d=>JE s]at g;go_enter func129,ntmps129
   go_wp2_with(first
    |(go_at_call_of 53 (Vl.bool true);refine(Bv _ _).mono ?_;rintro e w4 ⟨rfl,rfl⟩)
    |(go_at_call 167;refine(g.o _ (by exact cg cR)).mono ?_;rintro e w2 ⟨l,h⟩;unfold By at l;subst l;have y:Hid (Chg w w2 (W::bs)):=hZ (ct cR h);clear h))
   exact⟨rfl,rfl,y.o⟩
  |some u=>
   dsimp only
   rw[show EC W j (W::bs) t ts=fun d=>T6 W j (W::bs) (A8 t ts) u (AC 1 ts (Ai u)) d from funext fun d=>JF s]at g;obtain⟨r,z⟩:∃r,r=(⟨1,A6 ts,Dz,Ai u⟩:CW):=⟨_,rfl⟩
   obtain⟨t',A⟩:∃r,r=A8 t ts:=⟨_,rfl⟩
   rw[show AC 1 ts (Ai u)=r.toI by rw[z];rfl,<-A]at g;rw[<-z,<-A];obtain⟨x,q⟩:∃o,o=r.toI:=⟨_,rfl⟩
   rw[<-q]at g;have U:=hZ q;clear z A s q;go_enter func129,ntmps129
   go_wp2_with(first
    |(go_at_call_of 53 (Vl.bool true);refine(Bv _ _).mono ?_;rintro e w4 ⟨rfl,rfl⟩)
    |(go_at_call 167;refine(g.o _ (by exact cg cR)).mono ?_;rintro e w2 ⟨vu,bu,v',ae,ag,ys,G,rfl,B,k2,N,O,P,Q⟩;have V:=hZ B;have X:=hZ N;have Y:=hZ O;have Z:=hZ P;have K6:=hZ Q;obtain⟨C,D,rfl,_⟩:=B.row.form;clear B k2 N O P Q)
    |(refine Ae rfl _ _ _ rfl w2.heap.size (BJ x (.slice C x.steps.length D)) (by rfl) (by rfl) 42 Ef (by exact Ac.new w2 Ef 42) A0 rfl (Dx _ _ _ _) ?_;intro R M H J;have S:=hZ H;have T:=hZ J;have E:=hZ M;clear M H J)
    |(refine Bp rfl _ _ rfl w2.heap.size (by rfl) 42 (BJ x (.slice C x.steps.length D)) S.o _ underlying42 rfl A0 ?_;unfold BJ))
   all_goals(have ab:=E.o;have E:R.heap.size=w2.heap.size+1:=by simpa using ab)
   have q:=U.o;subst q;refine bodyPost_ret (results_tmp rfl _ _ _) rfl ?_;exact GC (by exact cg cR) V.o X.o (Y.o.sub (by simp)) Z.o (fun b I=>K6.o b (by simp at I|-;rcases I with h|h<;>simp[h])) (w2:=w2) (Ac.new R (BJ r.toI (.slice C r.toI.steps.length D)) 42) (by omega) (Chg.alloc (Chg.step (Chg.alloc cR _) T.o (fun i hi s=>by simp at hi;omega)) _)
def Uq(t:Tr)(a:List BY)(x:Tr):PV:=match Ah t a with
 |none=> .no 4
 |some u=>Kj (AE t a x) [⟨3,A6 a,Dz,Ai u⟩]
theorem Ry(W:Nat)(t x:Tr)(v i n:Vl)(bs d:List Nat)(F:Nat->Prop)(a:Option Addr)(c:Nat)(ts:List BY)(k:Int)(p f:BY)(sv P:Vl)(w:Wl)(h:Sx W t x v i n bs d F (.slice a ts.length c) ts w):
  Cl prog 130 #[.pointer (some ⟨W,0,none⟩),.agg #[.int .i64 k,.string p,.string f,sv,.slice a ts.length c,P,n]] w (BC W i (W::(d++bs)) (Uq t ts x) w):=by
 have g:Hid (∀b,Chg w b []->Cl prog 168 #[.pointer (some ⟨W,0,none⟩),.slice a ts.length c,n] b (Du W i (W::(d++bs)) t x ts b)):=hZ fun b M=>ae W t x v i n bs d F a c ts b (h.kept M)
 obtain⟨U,X,rfl⟩:=h.xat.iface;clear h;unfold Uq
 cases m:Ah t ts with
 |none=>
  rw[Hz];rw[show Du W i (W::(d++bs)) t (x:=x) ts=fun b=>AZ 4 (W::(d++bs)) b from funext fun b=>RP m]at g;go_enter func130,ntmps130
  go_wp2_with(first
   |(go_at_call 168;refine(g.o _ (by exact cg cR)).mono ?_;rintro e w2 ⟨j,h⟩;unfold By at j;subst j;have q:Hid (Chg w w2 (W::(d++bs))):=hZ (ct cR h);clear h))
  exact⟨rfl,rfl,q.o⟩
 |some u=>
  dsimp only
  unfold Kj;by_cases l:(Ag (AE t ts x)).within=true
  .rw[Qr l]
   rw[show Du W i (W::(d++bs)) t (x:=x) ts=fun b=>ET W i (W::(d++bs)) (AE t ts x) (Uu ts u) b from funext fun b=>Pr m l]at g;obtain⟨r,s⟩:∃r,r=(⟨3,A6 ts,Dz,Ai u⟩:CW):=⟨_,rfl⟩
   obtain⟨T,y⟩:∃r,r=AE t ts x:=⟨_,rfl⟩
   rw[show Uu ts u=r.toI by rw[s];rfl,<-y]at g;rw[<-s,<-y];obtain⟨R,A⟩:∃o,o=r.toI:=⟨_,rfl⟩
   rw[<-A]at g;clear s y l m;go_enter func130,ntmps130
   go_wp2_with(first
    |(go_at_call 168;refine(g.o _ (by exact cg cR)).mono ?_;rintro e w2 ⟨V,Q,S,ys,G,rfl,z,B,C,D,E⟩;have H:=hZ z;have I:=hZ B;have J:=hZ C;have K:=hZ D;have L:=hZ E;obtain⟨N,O,rfl,_⟩:=z.row.form;clear z B C D E;unfold BJ))
   refine bodyPost_ret (results_tmp rfl _ _ _) rfl ?_;subst A;exact GC (by exact cg cR) H.o I.o J.o K.o L.o (Ac.new w2 (BJ r.toI (.slice N r.toI.steps.length O)) 42) (Q8 _) (by exact cg cR)
  .rw[Qs l,Hz]
   rw[show Du W i (W::(d++bs)) t (x:=x) ts=fun b=>AZ 3 (W::(d++bs)) b from funext fun b=>J0 m (by simpa using l)]at g;go_enter func130,ntmps130
   go_wp2_with(first
    |(go_at_call 168;refine(g.o _ (by exact cg cR)).mono ?_;rintro e w2 ⟨j,h⟩;unfold By at j;subst j;have q:Hid (Chg w w2 (W::(d++bs))):=hZ (ct cR h);clear h))
   exact⟨rfl,rfl,q.o⟩
def PX(V:Nat->Vl->Prop)(w0:Wl)(d:Nat->Bool)(f:Nat->Vl)(w:Wl):Prop:=Chg w0 w []/\∀j,d j=true->V j (f j)
theorem PX.put{V:Nat->Vl->Prop}{w0 w w':Wl}{d:Nat->Bool}{f:Nat->Vl}{j:Nat}{v:Vl}(h:PX V w0 d f w)(c:V j v)(b:Chg w w' []):PX V w0 (BA d j) (Eb f j v) w':=
 ⟨h.1.trans b,fun k a=>by
  by_cases e:k=j
  .subst e;rw[Bf];exact c
  .rw[AA f v e];rw[An d e]at a;exact h.2 k a⟩
def M6(t:Tr)(a:List BY)(x:Tr):PV:=match Ah t a with
 |none=> .no 4
 |some u=>if BQ u x=true then .yes t []else .no 173
def OI(W B:Nat)(t x:Tr)(ts:List BY)(a b c:Vl)(j:Nat)(v:Vl):Prop:=match j with
 |0=>v= .pointer (some ⟨W,0,none⟩)
 |1=>v= .pointer (some ⟨B,4,none⟩)
 |2=>v=a
 |3=>v=b/\∃u,Ah t ts=some u
 |4=>v= .pointer (some ⟨B,6,none⟩)
 |5=>v=c
 |6=>∃u,Ah t ts=some u/\v= .bool (BQ u x)
 |7=>∃u,Ah t ts=some u/\BQ u x=true
 |_=>True
theorem QE{W:Nat}{d v:Vl}{bs c:List Nat}{t:Tr}{w w':Wl}(f:Hu w W t v d bs)(e:DJ w c (W::bs))(a:Chg w w' []):BC W d c (.yes t []) w (.returned (.slice none 0 0)) w':=
 ⟨v,bs,_,_,_,rfl,EW.none w w',f.kept a,e,a.none _,fun b g h=>h⟩
theorem Xr(W:Nat)(t x:Tr)(v uv H:Vl)(bs J:List Nat)(F:Nat->Prop)(r:Option Addr)(c:Nat)(ts:List BY)(k:Int)(p f:BY)(sv N:Vl)(ap:Av x)(w:Wl)(h:Sx W t x v uv H bs J F (.slice r ts.length c) ts w):
  Cl prog 133 #[.pointer (some ⟨W,0,none⟩),.agg #[.int .i64 k,.string p,.string f,sv,.slice r ts.length c,N,H]] w (BC W uv (W::(J++bs)) (M6 t ts x) w):=by
 obtain⟨q,Y,X⟩:∃q,(∀z,Chg w z []->Cl prog 170 #[.pointer (some ⟨W,0,none⟩),.slice r ts.length c] z (fun e w'=>Chg z w' []/\match Ah t ts with
   |none=>e=By 4
   |some u=>e= .returned q/\True))/\∀u,Ah t ts=some u->∀C,Chg w C []->Cl prog 171 #[q,H] C (BU (BQ u x) C):=by
  cases g:Ah t ts with
  |none=>exact⟨.nilIface,fun z M=>(Im h.laid h.wat h.tat g z M).mono fun e w' ⟨i,j⟩=>⟨j,i⟩,fun u e=>by cases e⟩
  |some u=>
   obtain⟨q,bu,rest,hf⟩:=EU h.wat.at_ _ ts _ rfl g;refine⟨q,fun z M=>(Dl h.laid h.wat h.tat hf z M).mono fun e w' ⟨i,j⟩=>⟨j,i,trivial⟩,fun u' e C hy=> ?_⟩
   injection e with e;subst e
   have ab:=h.wat.fine.lead g;exact ZB _ u x q H _ _ C (Q8 _) (Ar ab.fits).1 ab.good ap (hf.at_.chg hy (by simp)) (h.xat.chg hy (by simp))
 have R:=hZ Y;have an:=hZ X;clear Y X;obtain⟨G,I,aq⟩:=h.xat.iface;subst aq;have HW:=hZ h.wat;have U:DJ w (W::(J++bs)) (W::bs):=(DJ.refl h.nodup).sub (by simp);have HO:=hZ U;obtain⟨E,ad⟩:∃n,n=ts.length:=⟨_,rfl⟩
 rw[<-ad]at R|-;have ar:=h.xat;clear h U ad ar;go_enter func133,ntmps133
 go_wp2_with fail
 obtain⟨P,D⟩:∃y,y=World.drew (w.alloc (.cells #[.int .i64 k,.string p,.string f,sv,.slice r E c,N,.iface G I] 111)):=⟨_,rfl⟩
 have ao:=hZ D;have A:Hid (Chg w P []):=by rw[D];exact hZ (((Chg.refl w []).alloc _).drew)
 have Q:Hid (Ac P w.heap.size [.int .i64 k,.string p,.string f,sv,.slice r E c,N,.iface G I] 111):=by rw[D];exact hZ (Ac.new w _ _).drew
 clear D;refine wp_region_any (by kernel_rfl) ?_;change wpAny _ _ _ _ _ _ _ (World.drew _);rw[<-ao.o];refine Gy _ (PX (OI W w.heap.size t x ts (.slice r E c) q (.iface G I)) P) (by kernel_rfl) ?_ ?_ _ ?_
 .intro ii op a wa dd d l av s b K m
  match ii,d with
  |0,d=>
   obtain rfl:=Q5 d;have h0:a.tmps.getD 0 undef= .pointer (some ⟨W,0,none⟩):=l.at 0 (by kernel_rfl);go_simp
   exact m _ _ (by simp) (b.put (by simp[OI]) cR)
  |1,d=>
   obtain rfl:=Q5 d;have T:a.tmps.getD 3 undef= .pointer (some ⟨w.heap.size,0,none⟩):=l.at 3 (by kernel_rfl);go_simp
   exact m _ _ (by simp) (b.put (by simp[OI]) cR)
  |2,d=>
   obtain rfl:=Q5 d;have hp:a.tmps.getD 6 undef= .pointer (some ⟨w.heap.size,4,none⟩):=b.2 1 (s ⟨1,.data⟩ (by simp) rfl);have K:=Q.o.kept b.1;have L:=K.cell 4;simp only[Qa,Qb]at L;go_simp
   exact m _ _ (by simp) (b.put (by simp[OI]) cR)
  |3,d=>
   obtain rfl:=Q5 d;have h5:a.tmps.getD 5 undef= .pointer (some ⟨W,0,none⟩):=b.2 0 (s ⟨0,.data⟩ (by simp) rfl);have h7:a.tmps.getD 7 undef= .slice r E c:=b.2 2 (s ⟨2,.data⟩ (by simp) rfl);go_simp
   go_at_call 170;refine(R.o wa (A.o.trans b.1)).mono ?_;rintro e O ⟨i,j⟩
   cases g:Ah t ts with
   |none=>
    rw[g]at j
    dsimp only at j
    unfold By at j;subst j;unfold M6;rw[g];exact⟨l.defers,rfl,((A.o.trans b.1).trans i).none _⟩
   |some u=>
    rw[g]at j;obtain⟨rfl,T⟩:=j;exact m _ _ (by simp) (b.put ⟨rfl,u,g⟩ i)
  |4,d=>
   obtain rfl:=Q5 d;have T:a.tmps.getD 3 undef= .pointer (some ⟨w.heap.size,0,none⟩):=l.at 3 (by kernel_rfl);go_simp
   exact m _ _ (by simp) (b.put (by simp[OI]) cR)
  |5,d=>
   obtain rfl:=Q5 d;have hp:a.tmps.getD 9 undef= .pointer (some ⟨w.heap.size,6,none⟩):=b.2 4 (s ⟨4,.data⟩ (by simp) rfl);have K:=Q.o.kept b.1;have L:=K.cell 6;simp only[Qa,Qb]at L;go_simp
   exact m _ _ (by simp) (b.put (by simp[OI]) cR)
  |6,d=>
   obtain rfl:=Q5 d;obtain⟨h8,u,g⟩:a.tmps.getD 8 undef=q/\∃u,Ah t ts=some u:=b.2 3 (s ⟨3,.data⟩ (by simp) rfl)
   have au:a.tmps.getD 10 undef= .iface G I:=b.2 5 (s ⟨5,.data⟩ (by simp) rfl);have HS:=an.o u g wa (A.o.trans b.1);go_simp
   go_at_call 171;refine HS.mono ?_;rintro e O ⟨rfl,i⟩;exact m _ _ (by simp) (b.put ⟨u,g,rfl⟩ i)
  |7,d=>
   obtain rfl:=Q5 d;obtain⟨u,g,S⟩:∃u,Ah t ts=some u/\a.tmps.getD 11 undef= .bool (BQ u x):=b.2 6 (s ⟨6,.data⟩ (by simp) rfl)
   cases y:BQ u x with
   |true=>
    rw[y]at S;go_simp
    go_at_call 53;refine(Bv _ _).mono ?_;rintro e O ⟨rfl,rfl⟩;exact m _ _ (by simp) (b.put ⟨u,g,y⟩ cR)
   |false=>
    rw[y]at S;go_simp
    go_at_call 53;refine(Bu _ _).mono ?_;rintro e O ⟨he,i⟩;unfold By at he;subst he;unfold M6;rw[g]
    dsimp only
    rw[y];exact⟨l.defers,rfl,((A.o.trans b.1).trans i).none _⟩
  |_+8,d=>exact absurd d (by simp)
 .intro a wR dd l Z b
  obtain⟨u,g,y⟩:∃u,Ah t ts=some u/\BQ u x=true:=b.2 7 (Z 7 (by decide))
  have HR:Hid (Chg w wR []):=hZ (A.o.trans b.1);have V:M6 t ts x= .yes t []:=by unfold M6;rw[g];dsimp only;rw[Qr y]
  have am:=hZ V;clear b Z g y V;have B:=l.form' [5,6,7,8,9,10,11,12] (by kernel_rfl);have aa:=l.defers;obtain⟨o,df⟩:=a;clear l
  dsimp only at B aa
  simp only[List.foldl_cons,List.foldl_nil]at B;obtain⟨u5,ah⟩:∃x,x=o.getD 5 undef:=⟨_,rfl⟩
  obtain⟨u6,ai⟩:∃x,x=o.getD 6 undef:=⟨_,rfl⟩
  obtain⟨u7,aj⟩:∃x,x=o.getD 7 undef:=⟨_,rfl⟩
  obtain⟨u8,ak⟩:∃x,x=o.getD 8 undef:=⟨_,rfl⟩
  obtain⟨u9,al⟩:∃x,x=o.getD 9 undef:=⟨_,rfl⟩
  obtain⟨u10,ae⟩:∃x,x=o.getD 10 undef:=⟨_,rfl⟩
  obtain⟨u11,af⟩:∃x,x=o.getD 11 undef:=⟨_,rfl⟩
  obtain⟨u12,ag⟩:∃x,x=o.getD 12 undef:=⟨_,rfl⟩
  rw[<-ah,<-ai,<-aj,<-ak,<-al,<-ae,<-af,<-ag]at B;clear ah ai aj ak al ae af ag;simp only[List.setIfInBounds_toArray,List.set_cons_zero,List.set_cons_succ]at B;subst B;subst aa;go_wp2_with fail
  refine bodyPost_ret (results_tmp rfl _ _ _) rfl ?_;rw[am.o];exact QE HW.o HO.o HR.o
 .exact⟨Chg.refl _ _,fun _ e=>by cases e⟩
end
section
open Go Go.Shelf Go.RowKit Go.Lib Tree Ptr
theorem NS{W:Nat}{g:Vl}{b:List Nat}{t x:Tr}{ts:List BY}{w w':Wl}{e:Ending}(a:List CW)(h:Cq W g b t x ts w e w'):
  (∃n,Ga t ts x a= .no n/\e=By n/\Chg w w' b)\/(∃f,Ga t ts x a= .yes f (Dd t ts::a)/\ET W g b f (Dd t ts).toI w e w'):=by
 unfold Cq at h;unfold Ga;by_cases c:EN t ts≠0
 .rw[Qr c]at h|-
  exact .inl ⟨_,rfl,h.1,h.2⟩
 .rw[Qs c]at h|-
  unfold Kj;by_cases d:(Ag (At t ts x)).within=true
  .rw[Qr d]at h|-
   exact .inr ⟨_,rfl,h⟩
  .rw[Qs d]at h|-
   exact .inl ⟨_,rfl,h.1,h.2⟩
theorem I3{P:Program}{o:Oper}{a:Act}{Q:Exit->Act->Wl->Prop}{K:Act->Wl->Prop}{w:Wl}(r:Operand)(b:String)(m:Array Ti)(j:o.op= .call {callee:= .invoke r b,args:=#[],argTypes:=m})(v:Vl)(l:a.eval r=v)(f:FuncId)(args:Array Vl)(i:(callMethod v b #[]).run P w= .ok (.enter f args) w)(R:Ending->Wl->Prop)(d:Cl P f args w R)(c:∀e w2,R e w2->∃u,e= .returned u/\K (a.put o.dst u) w2):Oper.wp P o a w K Q:=by
 unfold Oper.wp
 have g:(execOp a.eval o).run P w= .ok (.enter f args) w:=by
  simp[execOp,j,resolve,invoke,l,i]
 rw[g];refine d.mono fun e w2 h=> ?_
 obtain⟨u,rfl,k⟩:=c e w2 h;exact k
structure IL(w4:Wl)(V:Nat->Vl->Prop)(P7 P8 P9:Vl->Wl->Prop)(d:Nat->Bool)(f:Nat->Vl)(w:Wl):Prop where
 early:d 8=false->Chg w4 w []
 vals:∀j,j<7->d j=true->V j (f j)
 o7:d 7=true->d 6=true
 o8:d 8=true->∀j,j<8->d j=true
 o9:d 9=true->d 8=true
 o10:d 10=true->d 9=true
 p7:d 7=true->d 8=false->P7 (f 7) w
 p8:d 8=true->d 9=false->P8 (f 8) w
 p9:d 9=true->P9 (f 9) w
 p10:d 10=true->f 10=f 9
section
variable {w4:Wl} {V:Nat->Vl->Prop} {P7 P8 P9:Vl->Wl->Prop} {d:Nat->Bool} {f:Nat->Vl} {w w':Wl}
theorem IL.read{j:Nat}{v:Vl}(h:IL w4 V P7 P8 P9 d f w)(r:j<7)(g:d j=false)(p:V j v)(o:Chg w w' [])(q:w'=w\/j=6):IL w4 V P7 P8 P9 (BA d j) (Eb f j v) w':=by
 have n:∀k,k≠j->BA d j k=d k:=fun k a=>An d a
 have m:∀k,k≠j->Eb f j v k=f k:=fun k a=>AA f v a
 have b:d 8=false:=by cases e:d 8 with
  |false=>rfl
  |true=>rw[h.o8 e j (by omega)]at g;cases g
 have c:d 9=false:=by cases e:d 9 with
  |false=>rfl
  |true=>rw[h.o9 e]at b;cases b
 have i:d 10=false:=by cases e:d 10 with
  |false=>rfl
  |true=>rw[h.o10 e]at c;cases c
 have up:∀k,d k=true->BA d j k=true:=fun k a=>by unfold BA;split;rfl;exact a
 refine⟨?_, ?_, ?_, ?_, ?_, ?_, ?_, ?_, ?_, ?_⟩<;>try simp only[n 7 (by omega),n 8 (by omega),n 9 (by omega),n 10 (by omega),m 7 (by omega),m 8 (by omega),m 9 (by omega),m 10 (by omega)]
 .exact fun _=>(h.early b).trans o
 .intro k a l
  by_cases e:k=j
  .subst e;rw[Bf];exact p
  .rw[m k e];rw[n k e]at l;exact h.vals k a l
 .exact fun e=>up 6 (h.o7 e)
 .rw[b];intro e;cases e
 .rw[c];intro e;cases e
 .rw[i];intro e;cases e
 .intro e _
  rcases q with rfl|rfl
  .exact h.p7 e b
  .rw[h.o7 e]at g;cases g
 .rw[b];intro e;cases e
 .rw[c];intro e;cases e
 .rw[i];intro e;cases e
theorem IL.made{v:Vl}(h:IL w4 V P7 P8 P9 d f w)(i:d 7=false)(l:d 6=true)(p:P7 v w')(o:Chg w w' []):IL w4 V P7 P8 P9 (BA d 7) (Eb f 7 v) w':=by
 have n:∀k,k≠7->BA d 7 k=d k:=fun k b=>An d b
 have m:∀k,k≠7->Eb f 7 v k=f k:=fun k b=>AA f v b
 have a:d 8=false:=by cases e:d 8 with
  |false=>rfl
  |true=>rw[h.o8 e 7 (by omega)]at i;cases i
 have c:d 9=false:=by cases e:d 9 with
  |false=>rfl
  |true=>rw[h.o9 e]at a;cases a
 have g:d 10=false:=by cases e:d 10 with
  |false=>rfl
  |true=>rw[h.o10 e]at c;cases c
 refine⟨?_, ?_, ?_, ?_, ?_, ?_, ?_, ?_, ?_, ?_⟩<;>try simp only[n 6 (by omega),n 8 (by omega),n 9 (by omega),n 10 (by omega),Bf,m 8 (by omega),m 9 (by omega),m 10 (by omega)]
 .exact fun _=>(h.early a).trans o
 .intro k b j
  rw[m k (by omega)];rw[n k (by omega)]at j;exact h.vals k b j
 .exact fun _=>l
 .rw[a];intro e;cases e
 .rw[c];intro e;cases e
 .rw[g];intro e;cases e
 .exact fun _ _=>p
 .rw[a];intro e;cases e
 .rw[c];intro e;cases e
 .rw[g];intro e;cases e
theorem IL.added{v:Vl}(h:IL w4 V P7 P8 P9 d f w)(g:d 8=false)(l:∀j,j<8->d j=true)(p:P8 v w'):IL w4 V P7 P8 P9 (BA d 8) (Eb f 8 v) w':=by
 have n:∀k,k≠8->BA d 8 k=d k:=fun k a=>An d a
 have m:∀k,k≠8->Eb f 8 v k=f k:=fun k a=>AA f v a
 have b:d 9=false:=by cases e:d 9 with
  |false=>rfl
  |true=>rw[h.o9 e]at g;cases g
 have c:d 10=false:=by cases e:d 10 with
  |false=>rfl
  |true=>rw[h.o10 e]at b;cases b
 refine⟨?_, ?_, ?_, ?_, ?_, ?_, ?_, ?_, ?_, ?_⟩<;>try simp only[n 6 (by omega),n 7 (by omega),n 9 (by omega),n 10 (by omega),Bf,BG,m 7 (by omega),m 9 (by omega),m 10 (by omega)]
 .intro e;cases e
 .intro k a i
  rw[m k (by omega)];rw[n k (by omega)]at i;exact h.vals k a i
 .exact h.o7
 .intro _ j o;rw[n j (by omega)];exact l j o
 .rw[b];intro e;cases e
 .rw[c];intro e;cases e
 .intro _ e;cases e
 .exact fun _ _=>p
 .rw[b];intro e;cases e
 .rw[c];intro e;cases e
theorem IL.built{v:Vl}(h:IL w4 V P7 P8 P9 d f w)(g:d 9=false)(b:d 8=true)(o:P9 v w'):IL w4 V P7 P8 P9 (BA d 9) (Eb f 9 v) w':=by
 have n:∀k,k≠9->BA d 9 k=d k:=fun k a=>An d a
 have m:∀k,k≠9->Eb f 9 v k=f k:=fun k a=>AA f v a
 have c:d 10=false:=by cases e:d 10 with
  |false=>rfl
  |true=>rw[h.o10 e]at g;cases g
 refine⟨?_, ?_, ?_, ?_, ?_, ?_, ?_, ?_, ?_, ?_⟩<;>try simp only[n 6 (by omega),n 7 (by omega),n 8 (by omega),n 10 (by omega),Bf,BG,m 7 (by omega),m 8 (by omega),m 10 (by omega)]
 .rw[b];intro e;cases e
 .intro k a i
  rw[m k (by omega)];rw[n k (by omega)]at i;exact h.vals k a i
 .exact h.o7
 .intro e j l;rw[n j (by omega)];exact h.o8 e j l
 .exact fun _=>b
 .rw[c];intro e;cases e
 .rw[b];intro _ e;cases e
 .intro _ e;cases e
 .exact fun _=>o
 .rw[c];intro e;cases e
theorem IL.end_(h:IL w4 V P7 P8 P9 d f w)(b:d 9=true):IL w4 V P7 P8 P9 (BA d 10) (Eb f 10 (f 9)) w:=by
 have n:∀k,k≠10->BA d 10 k=d k:=fun k a=>An d a
 have m:∀k,k≠10->Eb f 10 (f 9) k=f k:=fun k a=>AA f _ a
 have i:=h.o9 b;refine⟨?_, ?_, ?_, ?_, ?_, ?_, ?_, ?_, ?_, ?_⟩<;>try simp only[n 6 (by omega),n 7 (by omega),n 8 (by omega),n 9 (by omega),Bf,BG,m 7 (by omega),m 8 (by omega),m 9 (by omega)]
 .exact h.early
 .intro k a c
  rw[m k (by omega)];rw[n k (by omega)]at c;exact h.vals k a c
 .exact h.o7
 .intro e j g;rw[n j (by omega)];exact h.o8 e j g
 .exact h.o9
 .exact fun _=>b
 .exact h.p7
 .exact h.p8
 .exact h.p9
 .exact fun _=>trivial
end
end
section
open _root_.Go.Proofs.Tryz
open Go Go.Shelf Go.RowKit Go.Lib Tree Ptr
theorem Mg(s p:BY)(w:Wl):
  Cl prog 204 #[.string s,.string p] w fun e w'=>e= .returned (.bool (Lib.hasPrefix s.data.toList p.data.toList))/\w'=w:=by
 rw[<-Lib.hasPrefix_of_take,<-Lib.size_eq,<-Lib.size_eq];go_enter func204,ntmps204
 go_wp2
 .rename_i h
  go_ret
  refine⟨?_,rfl⟩
  show Ending.returned (Vl.bool ((s.extract 0 p.size).toList==p.toList))=_
  rw[Lib.extract_toList,Lib.toList_data];simp[h]
 .rename_i h
  go_ret
  refine⟨?_,rfl⟩
  show Ending.returned (Vl.bool false)=_
  simp[h]
theorem EH(s p:BY)(w:Wl):
  Cl prog 169 #[.string s,.string p] w fun e w'=>e= .returned (.bool (Lib.hasPrefix s.data.toList p.data.toList))/\w'=w:=by
 have a:=hZ (Mg s p);go_enter func169,ntmps169
 go_wp2_with(first
  |(go_at_call 204;refine(a.o _).mono ?_;rintro e b ⟨rfl,rfl⟩))
 go_ret
 exact⟨rfl,rfl⟩
theorem GR(a b:BY):Lib.hasPrefix a.data.toList (b++(⟨#[47]⟩:BY)).data.toList=EV a b:=by
 unfold EV Lib.hasPrefix;simp
def FR(t:Tr)(p f:BY)(b a:List BY):PV:=if EV p f=true then .no 175 else match Ah t a with
 |none=> .no 4
 |some u=>if p=f then .yes t []else Ga (A8 t a) b u [⟨1,A6 a,Dz,Ai u⟩]
theorem Dr.keptG{w0 f w2 c:Wl}{o:Bq}{sv:Vl}{ys:List Vl}{G:Nat->Prop}{cs:List Nat}(h:Dr f w2 o sv ys G)(d:Chg w2 c cs)(g:∀b,b∈cs->¬G b)(i:w0.heap.size<=f.heap.size):Dr w0 c o sv ys G:=by
 have e:BZ G w2 c:=d.keepsF (fun b a=>(h.new b a).2) g;exact⟨h.row.keptF h.inn e,h.inn,h.steps.kept e (fun _ h=>h),fun b a=>by have:=h.new b a;have:=d.size;omega⟩
theorem EW.two{w0 w2 h:Wl}{j k:Bq}{l m:Vl}{u w:List Vl}{p G2:Nat->Prop}{g:Nat}(d:Dr w0 w2 j l u p)(f:Dr w0 w2 k m w G2)(x:w0.heap.size<=w2.heap.size)(q:Chg w2 h [])(r:Ac h g (BJ j l++BJ k m) 42)(y:w2.heap.size<=g):EW w0 h [j,k] (.slice (some ⟨g,0,Option.none⟩) 2 2) (BJ j l++BJ k m) (fun b=>b=g\/p b\/G2 b):=by
 have A:=q.size;have s:BZ p w2 h:=q.keepsF (fun b a=>(d.new b a).2);have t:BZ G2 w2 h:=q.keepsF (fun b a=>(f.new b a).2);refine⟨⟨_,_,rfl,Q8 _,by simp[BJ],fun i v z=>⟨g,0,rfl,by rw[Nat.zero_add,r.cell i];exact z⟩⟩,(fun b o n c e=>by injection e with e;injection e with e;injection e with e;exact .inl e.symm), ?_, ?_⟩
 .exact⟨l,u,_,rfl,d.row.keptF d.inn s,d.inn.mono (fun b a=> .inr (.inl a)),d.steps.kept s (fun b a=> .inr (.inl a)),
   m,w,[],by simp,f.row.keptF f.inn t,f.inn.mono (fun b a=> .inr (.inr a)),f.steps.kept t (fun b a=> .inr (.inr a)),rfl⟩
 .rintro b (rfl|a|a)
  .exact⟨Q7 x y,r.lt⟩
  .have:=d.new b a;omega
  .have:=f.new b a;omega
theorem Yn{W:Nat}{A:Vl}{bs f d:List Nat}{z:Tr}{m n:CW}{w c w2 o:Wl}{B x y:Vl}{G H:List Vl}{p G2:Nat->Prop}{g:Nat}(v:Dr w c m.toI x G p)(t:DJ w (W::bs) f)(s:Chg w c (W::bs))(r:∀b,b∈f->¬p b)(e:Dr c w2 n.toI y H G2)(l:Hu w2 W z B A d)(u:DJ c f (W::d))(k:Chg c w2 f)(C:∀b,b∈W::d->¬G2 b)(D:Ac o g (BJ m.toI x++BJ n.toI y) 42)(F:w2.heap.size<=g)(j:Chg w2 o []):BC W A (W::bs) (.yes z [n,m]) w (.returned (.slice (some ⟨g,0,none⟩) 2 2)) o:=by
 have I:=s.size;have K:=k.size;have E:Chg w w2 (W::bs):=s.step k (fun i hi J=>by rcases t.come i hi with h|h;exact h;omega);refine⟨B,d,_,_,_,rfl,EW.two (w0:=w) (v.keptG k r (Q8 _)) ⟨e.row,e.inn,e.steps,fun b a=>by have:=e.new b a;omega⟩ (by omega) j D F,l.kept j,t.trans u I,E.trans (j.none _),fun b a=> ?_⟩;rintro(rfl|h|h)
 .rcases Qh.1 a with h|h
  .have:=l.blk.lt;omega
  .have:=AP.lt _ _ _ l.at_ _ h;omega
 .rcases u.come b a with q|q
  .exact r b q h
  .have:=v.new b h;omega
 .exact C b a h
structure Kf(w4:Wl)(V:Nat->Vl->Prop)(P5 P6:Vl->Wl->Prop)(d:Nat->Bool)(f:Nat->Vl)(w:Wl):Prop where
 early:d 5=false->w=w4
 vals:∀j,j<5->d j=true->V j (f j)
 p5:d 5=true->d 6=false->P5 (f 5) w
 p6:d 6=true->P6 (f 6) w
 p7:d 7=true->f 7=f 6
section
variable {w4:Wl} {V:Nat->Vl->Prop} {P5 P6:Vl->Wl->Prop} {d:Nat->Bool} {f:Nat->Vl} {w w':Wl}
theorem Kf.read{j:Nat}{v:Vl}(h:Kf w4 V P5 P6 d f w)(g:j<5)(c:V j v):Kf w4 V P5 P6 (BA d j) (Eb f j v) w:=by
 have n:∀k,k≠j->BA d j k=d k:=fun k a=>An d a
 have m:∀k,k≠j->Eb f j v k=f k:=fun k a=>AA f v a
 refine⟨?_, ?_, ?_, ?_, ?_⟩<;>try simp only[n 5 (by omega),n 6 (by omega),n 7 (by omega),m 5 (by omega),m 6 (by omega),m 7 (by omega)]
 .exact h.early
 .intro k a b
  by_cases e:k=j
  .subst e;rw[Bf];exact c
  .rw[m k e];rw[n k e]at b;exact h.vals k a b
 .exact h.p5
 .exact h.p6
 .exact h.p7
theorem Kf.added{v:Vl}(h:Kf w4 V P5 P6 d f w)(c:d 6=false)(g:d 7=false)(i:P5 v w'):Kf w4 V P5 P6 (BA d 5) (Eb f 5 v) w':=by
 have n:∀k,k≠5->BA d 5 k=d k:=fun k a=>An d a
 have m:∀k,k≠5->Eb f 5 v k=f k:=fun k a=>AA f v a
 refine⟨?_, ?_, ?_, ?_, ?_⟩<;>try simp only[n 6 (by omega),n 7 (by omega),Bf,BG,m 6 (by omega),m 7 (by omega)]
 .intro e;cases e
 .intro k a b
  rw[m k (by omega)];rw[n k (by omega)]at b;exact h.vals k a b
 .exact fun _ _=>i
 .rw[c];intro e;cases e
 .rw[g];intro e;cases e
theorem Kf.built{v:Vl}(h:Kf w4 V P5 P6 d f w)(c:d 5=true)(g:d 7=false)(i:P6 v w'):Kf w4 V P5 P6 (BA d 6) (Eb f 6 v) w':=by
 have n:∀k,k≠6->BA d 6 k=d k:=fun k a=>An d a
 have m:∀k,k≠6->Eb f 6 v k=f k:=fun k a=>AA f v a
 refine⟨?_, ?_, ?_, ?_, ?_⟩<;>try simp only[n 5 (by omega),n 7 (by omega),Bf,BG,m 5 (by omega),m 7 (by omega)]
 .rw[c];intro e;cases e
 .intro k a b
  rw[m k (by omega)];rw[n k (by omega)]at b;exact h.vals k a b
 .intro _ e;cases e
 .exact fun _=>i
 .rw[g];intro e;cases e
theorem Kf.end_(h:Kf w4 V P5 P6 d f w):Kf w4 V P5 P6 (BA d 7) (Eb f 7 (f 6)) w:=by
 have n:∀k,k≠7->BA d 7 k=d k:=fun k a=>An d a
 have m:∀k,k≠7->Eb f 7 (f 6) k=f k:=fun k a=>AA f _ a
 refine⟨?_, ?_, ?_, ?_, ?_⟩<;>try simp only[n 5 (by omega),n 6 (by omega),Bf,BG,m 5 (by omega),m 6 (by omega)]
 .exact h.early
 .intro k a b
  rw[m k (by omega)];rw[n k (by omega)]at b;exact h.vals k a b
 .exact h.p5
 .exact h.p6
 .exact fun _=>trivial
end
theorem Rw(W:Nat)(o sv q:Vl)(l:List Nat)(m n:Vl)(t:Tr)(ts c:List BY)(k:Int)(p f:BY)(w:Wl)(r:f.size<=16777216)(hi:EV p f=true):
  Cl prog 131 #[.pointer (some ⟨W,0,none⟩),.agg #[.int .i64 k,.string p,.string f,sv,m,n,q]] w (BC W o l (FR t p f ts c) w):=by
 have g:FR t p f ts c= .no 175:=by unfold FR;rw[Qr hi]
 rw[g,Hz];have b:=GR p f;rw[hi]at b
 have j:Hid (∀a,Cl prog 169 #[.string p,.string (f++⟨#[47]⟩)] a fun e w'=>e= .returned (.bool true)/\w'=a):=hZ fun a=>by
  have:=EH p (f++⟨#[47]⟩) a;rw[b]at this;exact this
 clear hi g b;go_enter func131,ntmps131
 go_wp2_with(first
  |(go_at_call 169;refine(j.o _).mono ?_;rintro e s ⟨rfl,rfl⟩)
  |(go_at_call 53;refine(Bu _ _).mono ?_;rintro e w2 ⟨d,h⟩;unfold By at d;subst d;have i:Hid (Chg w w2 []):=hZ (ct cR h);clear h))
 exact⟨rfl,rfl,i.o.none _⟩
theorem Rx(W:Nat)(t:Tr)(v u C:Vl)(bs:List Nat)(x:Nat->Prop)(i:Option Addr)(j:Nat)(ts a:List BY)(k:Int)(p f:BY)(sv B:Vl)(A:List Nat)(w:Wl)(l:Br w)(m:Hu w W t v u bs)(q:JC w x (.slice i a.length j) a)(E:f.size<=16777216)(hi:EV p f=false)(c:Ah t a=none):
  Cl prog 131 #[.pointer (some ⟨W,0,none⟩),.agg #[.int .i64 k,.string p,.string f,sv,B,.slice i a.length j,C]] w (BC W u A (FR t p f ts a) w):=by
 have s:FR t p f ts a= .no 4:=by unfold FR;rw[Qs (by simp[hi]),c]
 rw[s,Hz];have d:=GR p f;rw[hi]at d
 have z:Hid (∀b,Cl prog 169 #[.string p,.string (f++⟨#[47]⟩)] b fun e w'=>e= .returned (.bool false)/\w'=b):=hZ fun b=>by
  have:=EH p (f++⟨#[47]⟩) b;rw[d]at this;exact this
 have g:=hZ (Im l m q c);obtain⟨D,r⟩:∃n,n=a.length:=⟨_,rfl⟩
 rw[<-r]at g|-;clear hi s d l m q c r;go_enter func131,ntmps131
 go_wp2_with(first
  |(go_at_call 169;refine(z.o _).mono ?_;rintro e F ⟨rfl,rfl⟩)
  |(go_at_call_of 53 (Vl.bool true);refine(Bv _ _).mono ?_;rintro e G ⟨rfl,rfl⟩)
  |(go_at_call 170;refine(g.o _ (by exact cg cR)).mono ?_;rintro e w2 ⟨o,h⟩;unfold By at o;subst o;have y:Hid (Chg w w2 []):=hZ (ct cR h);clear h))
 exact⟨rfl,rfl,y.o.none _⟩
theorem NH(W:Nat)(t u:Tr)(v B m:Vl)(bs:List Nat)(C:Nat->Prop)(b:Option Addr)(c:Nat)(ts a:List BY)(k:Int)(f:BY)(sv l:Vl)(w:Wl)(r:Br w)(d:Hu w W t v B bs)(z:(W::bs).Nodup)(s:JC w C (.slice b a.length c) a)(K:f.size<=16777216)(hi:EV f f=false)(i:Ah t a=some u):
  Cl prog 131 #[.pointer (some ⟨W,0,none⟩),.agg #[.int .i64 k,.string f,.string f,sv,l,.slice b a.length c,m]] w (BC W B (W::bs) (FR t f f ts a) w):=by
 have A:FR t f f ts a= .yes t []:=by unfold FR;rw[Qs (by simp[hi]),i];dsimp only;rw[Qr rfl]
 rw[A];have j:=GR f f;rw[hi]at j
 have F:Hid (∀g,Cl prog 169 #[.string f,.string (f++⟨#[47]⟩)] g fun e w'=>e= .returned (.bool false)/\w'=g):=hZ fun g=>by
  have:=EH f (f++⟨#[47]⟩) g;rw[j]at this;exact this
 obtain⟨L,J,rest,y⟩:=EU d.at_ _ a _ rfl i;have p:=hZ (Dl r d s y);have G:=hZ d;have E:=hZ z;obtain⟨q,x⟩:∃n,n=a.length:=⟨_,rfl⟩
 rw[<-x]at p|-;clear hi A j r d s i x y z;go_enter func131,ntmps131
 go_wp2_with(first
  |(go_at_call 169;refine(F.o _).mono ?_;rintro e M ⟨rfl,rfl⟩)
  |(go_at_call_of 53 (Vl.bool true);refine(Bv _ _).mono ?_;rintro e N ⟨rfl,rfl⟩)
  |(go_at_call 170;refine(p.o _ (by exact cg cR)).mono ?_;rintro e w2 ⟨rfl,h⟩;have D:Hid (Chg w w2 []):=hZ (ct cR h);have o:Hid (Ac w2 w.heap.size [.int .i64 k,.string f,.string f,sv,l,.slice b q c,m] 111):=hZ ((Ac.new w [.int .i64 k,.string f,.string f,sv,l,.slice b q c,m] 111).kept h);have H:=o.o.cell 1;have I:=o.o.cell 2;simp only[Qa,Qb]at H I;clear h))
 refine bodyPost_ret (results_tmp rfl _ _ _) rfl ?_;exact QE G.o (DJ.refl E.o) (by exact cg D.o)
end
end Go.Proofs.YtkfnkppdhcaeoaaGreatDoor

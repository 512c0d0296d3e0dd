/- Part 26 of the proof of coreBase. -/
import Derived.Test.YtkfnkppdhcaeoaaGreatDoorM25
set_option maxRecDepth 100000
set_option maxHeartbeats 32000000
set_option linter.all false
namespace Go.Proofs.YtkfnkppdhcaeoaaGreatDoor
open Go renaming Calls->Cl,TypeId->Ti,Value->Vl,World->Wl
open Go.Value renaming agg->nA,iface->nF,int->nI,pointer->nP,slice->nS,string->nG,tuple->nT
open Go.IntKind renaming i64->nX
open Go.Ending renaming returned->nR
open Go.Obj renaming cells->nC
open Option renaming none->nN,some->nM
section
open _root_.Go.Proofs.Tryz
open Go Go.Shelf Go.RowKit Go.Lib Tree Ptr
structure UH(w:Wl)(o:Bq)(path frm:List BY)(x:Tr)(slp slf vx:Vl)(bx:List Nat)(F F2:Nat->Prop):Prop where
 tpath:JC w F slp path
 tfrm:AO o.kind=true->JC w F2 slf frm
 val:AN o.kind=true->AP w x vx bx/\Bt x
 pathP:AD o.path=nM path
 frmP:AO o.kind=true->AD o.frm=nM frm
 small:o.frm.size<=16777216
theorem BC.mono{W:Nat}{g:Vl}{d f:List Nat}{c:PV}{w w':Wl}{e:Ending}(h:BC W g d c w e w')(a:∀b,b∈d->b∈f):BC W g f c w e w':=by
 unfold BC at h|-
 cases c with
 |no n=>exact⟨h.1,h.2.mono fun _ _=>a _⟩
 |yes s t=>
  obtain⟨r,i,q,xs,G,j,k,l,m,o,p⟩:=h;exact⟨r,i,q,xs,G,j,k,l,m.mono a,o.mono fun _ _=>a _,p⟩
theorem Z1{k:Int}(h:CP k=true):k=1\/k=2\/k=3\/k=4\/k=5\/k=6:=by
 unfold CP at h;have:=of_decide_eq_true h;omega
theorem aD(W:Nat)(t:Tr)(v g:Vl)(bs:List Nat)(o:Bq)(a d:List BY)(x:Tr)(sv slp B i:Vl)(j:List Nat)(F s:Nat->Prop)(w:Wl)(C:Br w)(D:Hu w W t v g bs)(f:UH w o a d x slp B i j F s)(M:(W::(j++bs)).Nodup)(H:∀b,b∈W::(j++bs)->10<=b)(K:∀b,b∈W::(j++bs)->¬F b)(O:∀b,b∈W::(j++bs)->¬s b)(S:CP o.kind=true):
  ∃n:Nat,(HJ W)[(o.kind-1).toNat]? =nM (.func (.func n) #[nP (nM ⟨W,0,nN⟩)] #[])/\
   Cl prog n #[nP (nM ⟨W,0,nN⟩),nA #[nI nX o.kind,nG o.path,nG o.frm,sv,slp,B,i]] w (BC W g (W::(j++bs)) (Da t o a d x) w):=by
 have r:∀b,b∈W::bs->b∈W::(j++bs):=fun b q=>by
  rcases Qh.1 q with h|h
  .simp[h]
  .simp[h]
 have I:(W::bs).Nodup:=M.sublist Zh;obtain⟨p,c,rfl,_⟩:=f.tpath.row.cell;rw[Ao]at f|-;have E:UI W t v g bs F (nS p a.length c) a w:=⟨C,D,f.tpath,I,fun b q=>H b (r b q),fun b q=>K b (r b q)⟩;have G:AN o.kind=true->Sx W t x v g i bs j F (nS p a.length c) a w:=fun m=>⟨C,D,(f.val m).1,(f.val m).2,f.tpath,M,H,K⟩
 rcases Z1 S with e|e|e|e|e|e
 .refine⟨128,by rw[e];rfl, ?_⟩
  have k:Da t o a d x=Ga t a x []:=by unfold Da;rw[Qr e]
  rw[k];exact YG W t x v g i bs j F p c a _ _ _ sv B w (G (by rw[e];rfl))
 .refine⟨129,by rw[e];rfl, ?_⟩
  have k:Da t o a d x=YN t a:=by unfold Da YN;rw[Qs Zj,Qr e];rfl
  rw[k];exact(Tw W t v g bs F p c a _ _ _ sv B i w E).mono fun e w' h=>h.mono r
 .refine⟨130,by rw[e];rfl, ?_⟩
  have k:Da t o a d x=Uq t a x:=by unfold Da Uq;rw[Qs Zj,Qs Zj,Qr e];rfl
  rw[k];exact Ry W t x v g i bs j F p c a _ _ _ sv B w (G (by rw[e];rfl))
 .refine⟨131,by rw[e];rfl, ?_⟩
  have k:Da t o a d x=FR t o.path o.frm a d:=by unfold Da FR;rw[Qs Zj,Qs Zj,Qs Zj,Qr e];rfl
  rw[k];have m:AO o.kind=true:=by rw[e];rfl
  have l:=f.tfrm m;have R:=f.frmP m;obtain⟨y,z,rfl,_⟩:=l.row.cell;rw[Ao]at l|-;have Q:UI W t v g bs s (nS y d.length z) d w:=⟨C,D,l,I,fun b q=>H b (r b q),fun b q=>O b (r b q)⟩;by_cases hi:EV o.path o.frm=true
  .exact Rw W g sv i _ _ _ t a d _ _ _ w f.small hi
  .have hi:EV o.path o.frm=false:=by simpa using hi
   cases A:Ah t d with
   |none=>exact Rx W t v g i bs s y z a d _ _ _ sv _ _ w C D l f.small hi A
   |some u=>
    by_cases J:o.path=o.frm
    .rw[J]at hi|-
     exact(NH W t u v g i bs s y z a d _ _ sv _ w C D I l f.small hi A).mono fun e w' h=>h.mono r
    .have T:d≠[]:=fun N=>by
      have L:=(D7 R).1 N;rw[L]at hi;have P:=Jb f.pathP hi;exact J (by rw[L];exact(D7 f.pathP).1 P)
     exact(Pk W t u v g i bs F s p y c z a d _ _ _ sv w E Q T f.small hi J A).mono fun e w' h=>h.mono r
 .refine⟨132,by rw[e];rfl, ?_⟩
  have k:Da t o a d x=KV t a d:=by unfold Da KV;rw[Qs Zj,Qs Zj,Qs Zj,Qs Zj,Qr e];rfl
  rw[k];have m:AO o.kind=true:=by rw[e];rfl
  have l:=f.tfrm m;obtain⟨y,z,rfl,_⟩:=l.row.cell;rw[Ao]at l|-
  cases A:Ah t d with
  |none=>exact(NF W t v g i bs F s p y c z a d _ _ _ sv w E l A).mono fun e w' h=>h.mono r
  |some u=>exact(NG W t u v g i bs F s p y c z a d _ _ _ sv w E l A).mono fun e w' h=>h.mono r
 .refine⟨133,by rw[e];rfl, ?_⟩
  have k:Da t o a d x=M6 t a x:=by unfold Da M6;rw[Qs Zj,Qs Zj,Qs Zj,Qs Zj,Qs Zj];rfl
  rw[k];have m:AN o.kind=true:=by rw[e];rfl
  exact Xr W t x v g i bs j F p c a _ _ _ sv B (f.val m).2.good w (G m)
theorem M9(t:Tr)(F:Nat->Prop)(d:Nat)(w:Wl)(h:CG w F d t)(g:∀b,F b->b<w.heap.size)(x:(Ag t).nodes<=65536):
  Cl prog 68 #[nP (nM ⟨d,0,nN⟩)] w (Ht t w):=by
 obtain⟨v,k,hi,u⟩:=h;have p:=UD (∀a,Chg w a []->Cl prog 116 #[nA #[v]] a (Ht t a)) fun a c=>Vt _ t F v a (Q8 _) x (hi.kept (c.keepsF g) (fun _ h=>h)) (fun b i=>Q6 (g b i) c.size)
 have o:=UD (∀a,Chg w a []->Cl prog 30 #[nP (nM ⟨d,0,nN⟩)] a fun e w'=>e= nR (nA #[v])/\Chg a w' []) fun a c=>IG F d v a (c.keeps k) (hi.iface) (Q6 u c.size)
 obtain⟨A,C,rfl⟩:=hi.iface;clear hi k g;go_enter func68,ntmps68
 go_wp2_with(first
  |(go_at_call 30;refine(o.o _ cR).mono ?_;rintro e B ⟨rfl,j⟩;have f:=hZ j;clear j)
  |(go_at_call 116;refine(p.o _ f.o).mono ?_;rintro e w2 ⟨y,G,rfl,l,m,n⟩;have q:=hZ l;have r:=hZ m;have s:=hZ n;clear l m n))
 refine bodyPost_ret (results_tmp rfl _ _ _) rfl ?_;have z:=f.o.size;exact⟨y,G,rfl,q.o,f.o.trans r.o,fun b i=>by have:=s.o b i;omega⟩
theorem RF(o:Bq)(a:Option Addr)(n c:Nat)(w:Wl)(j:CP o.kind=false):
  Cl prog 52 #[nA #[nI nX o.kind,nG o.path,nG o.frm,nS a n c]] w (AZ 170 [] w):=by
 have f:=UD (∀b,Cl prog 90 #[nI nX o.kind] b fun e w'=>e= nR (nT #[.bool (AO o.kind),.bool (AN o.kind),.bool false])/\Chg b w' []) fun b=>by
  have:=Jm o.kind b;rwa[j]at this
 obtain⟨k,d⟩:=Ue o.kind
 obtain⟨s,l⟩:=Ue (AO o.kind)
 obtain⟨t,m⟩:=Ue (AN o.kind)
 rw[<-l,<-m,<-d]at f;rw[<-d];clear j l m d;go_enter func52,ntmps52
 go_wp2_with(first
  |(go_at_call 90;refine(f.o _).mono ?_;rintro e r ⟨rfl,g⟩;have p:=UD (Chg w r []) (ct cR g);clear g)
  |(go_at_call 53;refine(Bu _ _).mono ?_;rintro e w2 ⟨i,h⟩;unfold By at i;subst i;have q:=UD (Chg w w2 []) (ct p.o h);clear h))
 exact⟨rfl,rfl,q.o⟩
def Db(k:Int)(p f:BY)(sv:Vl):List Vl:=[nI nX k,nG p,nG f,sv,nS nN 0 0,nS nN 0 0,.nilIface]
theorem IK(k:Int)(p f:BY)(a:Option Addr)(n c:Nat):∀u∈Db k p f (nS a n c),u.oneCell'=true:=by
 intro u b;simp only[Db,Qh,List.not_mem_nil,or_false]at b
 rcases b with rfl|rfl|rfl|rfl|rfl|rfl|rfl<;>rfl
theorem Ce:(prog.info? 111).map (·.size)=nM 7:=Yb
theorem RH(o:Bq)(a:Option Addr)(n c:Nat)(w:Wl)(A:Br w)(F:o.path.size<=16777216)(D:CP o.kind=true)(E:AD o.path=nN):
  Cl prog 52 #[nA #[nI nX o.kind,nG o.path,nG o.frm,nS a n c]] w (AZ 171 [] w):=by
 have y:=UD (∀d,Cl prog 90 #[nI nX o.kind] d fun e w'=>e= nR (nT #[.bool (AO o.kind),.bool (AN o.kind),.bool true])/\Chg d w' []) fun d=>by
  have:=Jm o.kind d;rwa[D]at this
 have x:=UD (∀d,Chg w d []->Cl prog 58 #[nG o.path] d (IU d)) fun d W=>by
  have:=D8 o.path d (A.kept W) F;have e:AU o.path d=IU d:=by funext e w';unfold AU;rw[E]
  rwa[e]at this
 obtain⟨k,r⟩:=Ue o.kind
 obtain⟨uf,G⟩:=Ue (AO o.kind)
 obtain⟨uv,H⟩:=Ue (AN o.kind)
 rw[<-G,<-H,<-r]at y;obtain⟨p,s⟩:=Ue o.path
 obtain⟨f,C⟩:=Ue o.frm
 rw[<-s]at x;rw[<-r,<-s,<-C];have P:=UD (Ac (((w.alloc (nC #[nI nX k,nG p,nG f,nS a n c] 42)).alloc (nC (Db 0 ⟨#[]⟩ ⟨#[]⟩ (nS nN 0 0)).toArray 111)).alloc (nC (Db 0 ⟨#[]⟩ ⟨#[]⟩ (nS nN 0 0)).toArray 111)) (w.heap.size+1+1) (Db 0 ⟨#[]⟩ ⟨#[]⟩ (nS nN 0 0)) 111) (by have:=Ac.new ((w.alloc (nC #[nI nX k,nG p,nG f,nS a n c] 42)).alloc (nC (Db 0 ⟨#[]⟩ ⟨#[]⟩ (nS nN 0 0)).toArray 111)) (Db 0 ⟨#[]⟩ ⟨#[]⟩ (nS nN 0 0)) 111;simpa using this);have R:=UD (Ac (((w.alloc (nC #[nI nX k,nG p,nG f,nS a n c] 42)).alloc (nC (Db 0 ⟨#[]⟩ ⟨#[]⟩ (nS nN 0 0)).toArray 111)).alloc (nC (Db 0 ⟨#[]⟩ ⟨#[]⟩ (nS nN 0 0)).toArray 111)) w.heap.size (BJ ⟨k,p,f,[]⟩ (nS a n c)) 42) (((Ac.new w (BJ ⟨k,p,f,[]⟩ (nS a n c)) 42).alloc _).alloc _);clear D G H r E A F s C;go_enter func52,ntmps52
 go_wp2_with(first
  |(refine Ae rfl _ _ _ rfl (w.heap.size+1+1) (Db k p f (nS a n c)) ZN ZN 111 (Db 0 ⟨#[]⟩ ⟨#[]⟩ (nS nN 0 0)) (by exact P.o) Ce rfl (IK _ _ _ _ _ _) ?_;intro w0 I z q;have V:=hZ z;have Z:=hZ I;have S:=UD (Chg w w0 []) (Chg.step (b:=_) (by exact cg cR) q (fun i hi hl=>by simp at hi;omega));have u:=UD (Ac w0 w.heap.size (BJ ⟨k,p,f,[]⟩ (nS a n c)) 42) (Ac.kept (w:=_) (by exact R.o) q (by simp;omega));have K:=u.o.cell 0;unfold BJ at K;simp only[Qa,Qb]at K;clear I z q)
  |(go_at_call 90;refine(y.o _).mono ?_;rintro e X ⟨rfl,g⟩;have v:=UD (Chg w X []) (ct S.o g);have l:=hZ (u.o.kept g);have Q:=hZ (V.o.kept g);have L:=l.o.cell 1;have M:=l.o.cell 2;have N:=l.o.cell 3;unfold BJ at L M N;simp only[Qa,Qb]at L M N;clear g)
  |(go_at_call_of 53 (Vl.bool true);refine(Bv _ _).mono ?_;rintro e w2 ⟨rfl,rfl⟩)
  |(go_at_call 58;refine(x.o _ (by exact cg v.o)).mono ?_;rintro e J ⟨⟨te,xe,rfl⟩,m⟩;have t:=hZ (Q.o.kept m);have O:=t.o.cell 4;have z4:∀j,J.frozen? ⟨w.heap.size+1+1,j,nN⟩=false:=fun j=>t.o.frozen j;unfold Db at O;simp only[Qa,Qb]at O;have T:=UD (Chg w J []) (ct v.o m);clear m)
  |(go_at_call 53;refine(Bu _ _).mono ?_;rintro e Y ⟨B,h⟩;unfold By at B;subst B;have U:=UD (Chg w Y []) (Chg.trans (b:=_) (by exact T.o.setCell _ _ (by simp;omega)) h);clear h))
 exact⟨rfl,rfl,U.o⟩
theorem RE(o:Bq)(a:Option Addr)(n c:Nat)(w:Wl)(t:Br w)(M:o.path.size<=16777216)(N:o.frm.size<=16777216)(J:CP o.kind=true)(ts:List BY)(K:AD o.path=nM ts)(O:AO o.kind=true)(L:AD o.frm=nN):
  Cl prog 52 #[nA #[nI nX o.kind,nG o.path,nG o.frm,nS a n c]] w (AZ 171 [] w):=by
 have r:=UD (∀d,Cl prog 90 #[nI nX o.kind] d fun e w'=>e= nR (nT #[.bool (AO o.kind),.bool (AN o.kind),.bool true])/\Chg d w' []) fun d=>by
  have:=Jm o.kind d;rwa[J]at this
 have F:=UD (∀d,Chg w d []->Cl prog 58 #[nG o.path] d (FA ts d)) fun d z=>by
  have:=D8 o.path d (t.kept z) M;have e:AU o.path d=FA ts d:=by funext e w';unfold AU;rw[K]
  rwa[e]at this
 have G:=UD (∀d bs,Chg w d bs->(∀b,b∈bs->10<=b)->Cl prog 58 #[nG o.frm] d (IU d)) fun d bs z hb=>by
  have:=D8 o.frm d (t.kept z hb) N;have e:AU o.frm d=IU d:=by funext e w';unfold AU;rw[L]
  rwa[e]at this
 obtain⟨k,x⟩:=Ue o.kind
 rw[O]at r;obtain⟨uv,P⟩:=Ue (AN o.kind)
 rw[<-P,<-x]at r;obtain⟨p,y⟩:=Ue o.path
 obtain⟨f,u⟩:=Ue o.frm
 rw[<-y]at F;rw[<-u]at G;rw[<-x,<-y,<-u];have BN:=UD (Ac (((w.alloc (nC #[nI nX k,nG p,nG f,nS a n c] 42)).alloc (nC (Db 0 ⟨#[]⟩ ⟨#[]⟩ (nS nN 0 0)).toArray 111)).alloc (nC (Db 0 ⟨#[]⟩ ⟨#[]⟩ (nS nN 0 0)).toArray 111)) (w.heap.size+1+1) (Db 0 ⟨#[]⟩ ⟨#[]⟩ (nS nN 0 0)) 111) (by have:=Ac.new ((w.alloc (nC #[nI nX k,nG p,nG f,nS a n c] 42)).alloc (nC (Db 0 ⟨#[]⟩ ⟨#[]⟩ (nS nN 0 0)).toArray 111)) (Db 0 ⟨#[]⟩ ⟨#[]⟩ (nS nN 0 0)) 111;simpa using this);have ad:=UD (Ac (((w.alloc (nC #[nI nX k,nG p,nG f,nS a n c] 42)).alloc (nC (Db 0 ⟨#[]⟩ ⟨#[]⟩ (nS nN 0 0)).toArray 111)).alloc (nC (Db 0 ⟨#[]⟩ ⟨#[]⟩ (nS nN 0 0)).toArray 111)) w.heap.size (BJ ⟨k,p,f,[]⟩ (nS a n c)) 42) (((Ac.new w (BJ ⟨k,p,f,[]⟩ (nS a n c)) 42).alloc _).alloc _);clear J P x K t M N y u O L;go_enter func52,ntmps52
 go_wp2_with(first
  |(refine Ae rfl _ _ _ rfl (w.heap.size+1+1) (Db k p f (nS a n c)) ZN ZN 111 (Db 0 ⟨#[]⟩ ⟨#[]⟩ (nS nN 0 0)) (by exact BN.o) Ce rfl (IK _ _ _ _ _ _) ?_;intro w0 Q H v;have ae:=hZ H;have af:=hZ Q;have H0:=UD (Chg w w0 []) (Chg.step (b:=_) (by exact cg cR) v (fun i hi hl=>by simp at hi;omega));have C:=UD (Ac w0 w.heap.size (BJ ⟨k,p,f,[]⟩ (nS a n c)) 42) (Ac.kept (w:=_) (by exact ad.o) v (by simp;omega));have T:=C.o.cell 0;unfold BJ at T;simp only[Qa,Qb]at T;clear Q H v)
  |(go_at_call 90;refine(r.o _).mono ?_;rintro e w1 ⟨rfl,m⟩;have D:=UD (Chg w w1 []) (ct H0.o m);have l:=hZ (C.o.kept m);have aa:=hZ (ae.o.kept m);have U:=l.o.cell 1;have V:=l.o.cell 2;have W:=l.o.cell 3;unfold BJ at U V W;simp only[Qa,Qb]at U V W;clear m)
  |(go_at_call_of 53 (Vl.bool true);refine(Bv _ _).mono ?_;rintro e w2 ⟨rfl,rfl⟩)
  |(go_at_call_of 58 (Vl.string p);refine(F.o _ (by exact cg D.o)).mono ?_;rintro e R ⟨ag,rfl,A,q2,q⟩;have Q1:=hZ A;obtain⟨a1,c1,rfl,_⟩:=A.form;have g:=hZ (aa.o.kept q);have ab:=hZ (l.o.kept q);have Y:=g.o.cell 4;have z4:∀j,R.frozen? ⟨w.heap.size+1+1,j,nN⟩=false:=fun j=>g.o.frozen j;have X:=ab.o.cell 2;unfold Db at Y;unfold BJ at X;simp only[Qa,Qb]at Y X;have E:=UD (Chg w R []) (ct D.o q);have l3:=g.o.lt;clear q A q2)
  |(go_at_call_of 58 (Vl.string f);refine(G.o _ [] (by exact E.o.setCell _ _ (by simp;omega)) Zh).mono ?_;rintro e S ⟨⟨te,xe,rfl⟩,s⟩;have B:=hZ (((g.o.set 4 (nS a1 (Ad ts).length c1))).kept s);have Z:=B.o.cell 5;have z5:∀j,S.frozen? ⟨w.heap.size+1+1,j,nN⟩=false:=fun j=>B.o.frozen j;unfold Db at Z;simp only[Qa,Qb,List.set_cons_zero,List.set_cons_succ]at Z;have H5:=UD (Chg w S []) (Chg.trans (b:=_) (by exact E.o.setCell _ _ (by simp;omega)) s);clear s)
  |(go_at_call_of 53 (Vl.bool false);refine(Bu _ _).mono ?_;rintro e w4 ⟨I,h⟩;unfold By at I;subst I;have H4:=UD (Chg w w4 []) (Chg.trans (b:=_) (by exact H5.o.setCell _ _ (by simp;omega)) h);clear h))
 exact⟨rfl,rfl,H4.o⟩
theorem Nd{k:Int}(h:AN k=true):AO k=false:=by
 unfold AN at h;unfold AO;simp only[Bool.or_eq_true,decide_eq_true_eq]at h
 rcases h with(h|h)|h<;>subst h<;>rfl
theorem TC(o:Bq)(a:Option Addr)(n c:Nat)(w:Wl)(H:Br w)(Q:o.path.size<=16777216)(N:CP o.kind=true)(ts:List BY)(P:AD o.path=nM ts)(z:AN o.kind=true)(ys:List Vl)(I:As w (nS a n c) 6 o.steps.length ys)(J:Az w o.steps ys)(K:∀s∈o.steps,Di s)(O:o.steps.length<=4294967296)(u:AS o.steps=nN):
  Cl prog 52 #[nA #[nI nX o.kind,nG o.path,nG o.frm,nS a n c]] w (AZ 174 [] w):=by
 have t:=UD (∀d,Cl prog 90 #[nI nX o.kind] d fun e w'=>e= nR (nT #[.bool (AO o.kind),.bool (AN o.kind),.bool true])/\Chg d w' []) fun d=>by
  have:=Jm o.kind d;rwa[N]at this
 have E:=UD (∀d,Chg w d []->Cl prog 58 #[nG o.path] d (FA ts d)) fun d q=>by
  have:=D8 o.path d (H.kept q) Q;have e:AU o.path d=FA ts d:=by funext e w';unfold AU;rw[P]
  rwa[e]at this
 have HB:=UD (∀d,Chg w d []->Cl prog 28 #[nS a n c] d (fun e w'=>(∃(ti:Ti) (Z:Vl),e= nR (nT #[nP nN,nF ti Z]))/\Chg d w' [])) fun d q=>by
  have:=Fk o.steps _ ys d (I.kept q) (J.kept q) K O;refine this.mono fun e w' h=> ?_
  unfold BO at h;unfold AS at u;rw[u]at h;exact h
 have R:=Nd z;obtain⟨k,x⟩:=Ue o.kind
 rw[R,z]at t;rw[<-x]at t;obtain⟨p,y⟩:=Ue o.path
 obtain⟨f,M⟩:=Ue o.frm
 rw[<-y]at E;rw[<-x,<-y,<-M];have BN:=UD (Ac (((w.alloc (nC #[nI nX k,nG p,nG f,nS a n c] 42)).alloc (nC (Db 0 ⟨#[]⟩ ⟨#[]⟩ (nS nN 0 0)).toArray 111)).alloc (nC (Db 0 ⟨#[]⟩ ⟨#[]⟩ (nS nN 0 0)).toArray 111)) (w.heap.size+1+1) (Db 0 ⟨#[]⟩ ⟨#[]⟩ (nS nN 0 0)) 111) (by have:=Ac.new ((w.alloc (nC #[nI nX k,nG p,nG f,nS a n c] 42)).alloc (nC (Db 0 ⟨#[]⟩ ⟨#[]⟩ (nS nN 0 0)).toArray 111)) (Db 0 ⟨#[]⟩ ⟨#[]⟩ (nS nN 0 0)) 111;simpa using this);have ad:=UD (Ac (((w.alloc (nC #[nI nX k,nG p,nG f,nS a n c] 42)).alloc (nC (Db 0 ⟨#[]⟩ ⟨#[]⟩ (nS nN 0 0)).toArray 111)).alloc (nC (Db 0 ⟨#[]⟩ ⟨#[]⟩ (nS nN 0 0)).toArray 111)) w.heap.size (BJ ⟨k,p,f,[]⟩ (nS a n c)) 42) (((Ac.new w (BJ ⟨k,p,f,[]⟩ (nS a n c)) 42).alloc _).alloc _);clear N x P H Q y M R z I J K O u;go_enter func52,ntmps52
 go_wp2_with(first
  |(refine Ae rfl _ _ _ rfl (w.heap.size+1+1) (Db k p f (nS a n c)) ZN ZN 111 (Db 0 ⟨#[]⟩ ⟨#[]⟩ (nS nN 0 0)) (by exact BN.o) Ce rfl (IK _ _ _ _ _ _) ?_;intro w0 S G v;have ae:=hZ G;have af:=hZ S;have H0:=UD (Chg w w0 []) (Chg.step (b:=_) (by exact cg cR) v (fun i hi hl=>by simp at hi;omega));have B:=UD (Ac w0 w.heap.size (BJ ⟨k,p,f,[]⟩ (nS a n c)) 42) (Ac.kept (w:=_) (by exact ad.o) v (by simp;omega));have U:=B.o.cell 0;unfold BJ at U;simp only[Qa,Qb]at U;clear S G v)
  |(go_at_call 90;refine(t.o _).mono ?_;rintro e w1 ⟨rfl,l⟩;have C:=UD (Chg w w1 []) (ct H0.o l);have g:=hZ (B.o.kept l);have aa:=hZ (ae.o.kept l);have V:=g.o.cell 1;have W:=g.o.cell 2;have X:=g.o.cell 3;unfold BJ at V W X;simp only[Qa,Qb]at V W X;clear l)
  |(go_at_call_of 53 (Vl.bool true);refine(Bv _ _).mono ?_;rintro e w2 ⟨rfl,rfl⟩)
  |(go_at_call_of 58 (Vl.string p);refine(E.o _ (by exact cg C.o)).mono ?_;rintro e T ⟨ag,rfl,A,q2,m⟩;have Q1:=hZ A;obtain⟨a1,c1,rfl,_⟩:=A.form;have r:=hZ (aa.o.kept m);have ab:=hZ (g.o.kept m);have y4:=r.o.cell 4;have z4:∀j,T.frozen? ⟨w.heap.size+1+1,j,nN⟩=false:=fun j=>r.o.frozen j;have Y:=ab.o.cell 3;unfold Db at y4;unfold BJ at Y;simp only[Qa,Qb]at y4 Y;have D:=UD (Chg w T []) (ct C.o m);have l3:=r.o.lt;clear m A q2)
  |(go_at_call 28;refine(HB.o _ (by exact D.o.setCell _ _ (by simp;omega))).mono ?_;rintro e w5 ⟨⟨te,Z,rfl⟩,F⟩;have H5:=UD (Chg w w5 []) (Chg.trans (b:=_) (by exact D.o.setCell _ _ (by simp;omega)) F);clear F)
  |(go_at_call_of 53 (Vl.bool false);refine(Bu _ _).mono ?_;rintro e w4 ⟨L,h⟩;unfold By at L;subst L;have H4:=UD (Chg w w4 []) (Chg.trans (b:=_) (by exact H5.o) h);clear h))
 exact⟨rfl,rfl,H4.o⟩
def I8(o:Bq)(h g:List BY)(x:Tr)(sv:Vl)(w:Wl)(e:Ending)(w':Wl):Prop:=
 ∃slp d f c F a,e= nR (nA #[nI nX o.kind,nG o.path,nG o.frm,sv,slp,d,f])/\UH w' o h g x slp d f c F a/\BP w c/\(∀b,F b->w.heap.size<=b)/\(∀b,a b->w.heap.size<=b)/\(∀b,b∈c->¬F b/\¬a b)/\Chg w w' []/\(d.oneCell'=true/\f.oneCell'=true)
theorem LL{i w':Wl}{d:Vl}{ts:List BY}{s:BY}(h:AK i d 9 (Ad ts))(g:AD s=nM ts)(l:s.size<=16777216)(f:Chg i w' []):JC w' (fun b=>d.ownBlock=nM b) d ts:=
 ⟨(h.kept f).rowAt (fun _ e=>e),fun b k=>Q6 (h.lt k) f.size,PK g Zj,fun t m=>Q7 (Lf g t m) l,fun a n c e=>by
  obtain⟨o,p,j,_⟩:=h.form;rw[j]at e h;have v:=h.capLe.2
  injection e with q r u
  omega⟩
theorem RG(o:Bq)(a:Option Addr)(n c:Nat)(w:Wl)(T:Br w)(H:o.path.size<=16777216)(W:o.frm.size<=16777216)(V:CP o.kind=true)(ts:List BY)(x:AD o.path=nM ts)(I:AO o.kind=false)(J:AN o.kind=false):
  Cl prog 52 #[nA #[nI nX o.kind,nG o.path,nG o.frm,nS a n c]] w (I8 o ts [] .null (nS a n c) w):=by
 have C:=UD (∀d,Cl prog 90 #[nI nX o.kind] d fun e w'=>e= nR (nT #[.bool (AO o.kind),.bool (AN o.kind),.bool true])/\Chg d w' []) fun d=>by
  have:=Jm o.kind d;rwa[V]at this
 have P:=UD (∀d,Chg w d []->Cl prog 58 #[nG o.path] d (FA ts d)) fun d hx=>by
  have:=D8 o.path d (T.kept hx) H;have e:AU o.path d=FA ts d:=by funext e w';unfold AU;rw[x]
  rwa[e]at this
 have HT:=UD (∀(z:Vl) (q w':Wl),AK q z 9 (Ad ts)->Chg q w' []->JC w' (fun b=>z.ownBlock=nM b) z ts) fun z q w' l h2=>LL l x H h2
 have am:=hZ x;have Q:=hZ I;have ao:=hZ J;have an:=hZ W;obtain⟨k,v⟩:=Ue o.kind
 rw[I,J]at C;rw[<-v]at C;obtain⟨p,y⟩:=Ue o.path
 obtain⟨f,D⟩:=Ue o.frm
 rw[<-y]at P;have ak:=hZ v;have al:=hZ y;have aj:=hZ D;rw[<-v,<-y,<-D];have BN:=UD (Ac (((w.alloc (nC #[nI nX k,nG p,nG f,nS a n c] 42)).alloc (nC (Db 0 ⟨#[]⟩ ⟨#[]⟩ (nS nN 0 0)).toArray 111)).alloc (nC (Db 0 ⟨#[]⟩ ⟨#[]⟩ (nS nN 0 0)).toArray 111)) (w.heap.size+1+1) (Db 0 ⟨#[]⟩ ⟨#[]⟩ (nS nN 0 0)) 111) (by have:=Ac.new ((w.alloc (nC #[nI nX k,nG p,nG f,nS a n c] 42)).alloc (nC (Db 0 ⟨#[]⟩ ⟨#[]⟩ (nS nN 0 0)).toArray 111)) (Db 0 ⟨#[]⟩ ⟨#[]⟩ (nS nN 0 0)) 111;simpa using this);have ae:=UD (Ac (((w.alloc (nC #[nI nX k,nG p,nG f,nS a n c] 42)).alloc (nC (Db 0 ⟨#[]⟩ ⟨#[]⟩ (nS nN 0 0)).toArray 111)).alloc (nC (Db 0 ⟨#[]⟩ ⟨#[]⟩ (nS nN 0 0)).toArray 111)) (w.heap.size+1) (Db 0 ⟨#[]⟩ ⟨#[]⟩ (nS nN 0 0)) 111) ((CH w _ _ _).alloc _);have ag:=UD (Ac (((w.alloc (nC #[nI nX k,nG p,nG f,nS a n c] 42)).alloc (nC (Db 0 ⟨#[]⟩ ⟨#[]⟩ (nS nN 0 0)).toArray 111)).alloc (nC (Db 0 ⟨#[]⟩ ⟨#[]⟩ (nS nN 0 0)).toArray 111)) w.heap.size (BJ ⟨k,p,f,[]⟩ (nS a n c)) 42) (((Ac.new w (BJ ⟨k,p,f,[]⟩ (nS a n c)) 42).alloc _).alloc _);clear V v x T H W y D I J;go_enter func52,ntmps52
 go_wp2_with(first
  |(refine Ae rfl _ _ _ rfl (w.heap.size+1+1) (Db k p f (nS a n c)) ZN ZN 111 (Db 0 ⟨#[]⟩ ⟨#[]⟩ (nS nN 0 0)) (by exact BN.o) Ce rfl (IK _ _ _ _ _ _) ?_;intro w0 X R u;have ah:=hZ R;have au:=hZ X;have H0:=UD (Chg w w0 []) (Chg.step (b:=_) (by exact cg cR) u (fun i hi hl=>by simp at hi;omega));have M:=UD (Ac w0 w.heap.size (BJ ⟨k,p,f,[]⟩ (nS a n c)) 42) (Ac.kept (w:=_) (by exact ag.o) u (by simp;omega));have aa:=UD (Ac w0 (w.heap.size+1) (Db 0 ⟨#[]⟩ ⟨#[]⟩ (nS nN 0 0)) 111) (Ac.kept (w:=_) (by exact ae.o) u Zh);have x0:=M.o.cell 0;unfold BJ at x0;simp only[Qa,Qb]at x0;clear X R u)
  |(go_at_call 90;refine(C.o _).mono ?_;rintro e Z ⟨rfl,l⟩;have B:=UD (Chg w Z []) (ct H0.o l);have t:=hZ (M.o.kept l);have L:=hZ (ah.o.kept l);have ab:=hZ (aa.o.kept l);have x1:=t.o.cell 1;have x2:=t.o.cell 2;have x3:=t.o.cell 3;unfold BJ at x1 x2 x3;simp only[Qa,Qb]at x1 x2 x3;clear l)
  |(go_at_call_of 53 (Vl.bool true);refine(Bv _ _).mono ?_;rintro e w2 ⟨rfl,rfl⟩)
  |(go_at_call_of 58 (Vl.string p);refine(P.o _ (by exact cg B.o)).mono ?_;rintro e q ⟨ay,rfl,K,Y,r⟩;have Q1:=hZ K;obtain⟨h,c1,rfl,_⟩:=K.form;have s:=hZ (L.o.kept r);have af:=hZ (t.o.kept r);have ad:=hZ (ab.o.kept r);have y4:=s.o.cell 4;have z4:∀j,q.frozen? ⟨w.heap.size+1+1,j,nN⟩=false:=fun j=>s.o.frozen j;have x5:=af.o.cell 2;unfold Db at y4;unfold BJ at x5;simp only[Qa,Qb]at y4 x5;have N:=UD (Chg w q []) (ct B.o r);have l3:=s.o.lt;have Q2:=hZ Y;have ar:=hZ r;clear r K Y)
  |(refine Bp rfl _ _ rfl (w.heap.size+1+1) ZN 111 [nI nX k,nG p,nG f,nS a n c,nS h (Ad ts).length c1,nS nN 0 0,.nilIface] (by exact s.o.set 4 (nS h (Ad ts).length c1)) _ underlying111 rfl Ce ?_)
  |(refine Ae rfl _ _ _ rfl (w.heap.size+1) [nI nX k,nG p,nG f,nS a n c,nS h (Ad ts).length c1,nS nN 0 0,.nilIface] ZN ZN 111 (Db 0 ⟨#[]⟩ ⟨#[]⟩ (nS nN 0 0)) (by exact ad.o.set_other _ _ Zh) Ce rfl (by simp[Vl.oneCell']) ?_;intro A aq S U;have ai:=hZ S;have O:=hZ U;clear aq S U))
 have ax:=N.o.size;have av:=L.o.lt;have F:∀b,(Vl.slice h (Ad ts).length c1).ownBlock=nM b->Z.heap.size<=b:=fun b m=>Q2.o.ge b (by rw[m];simp)
 have aw:=B.o.size;have ap:AK A (nS h (Ad ts).length c1) 9 (Ad ts):=(Q1.o.kept ((Chg.refl q [w.heap.size+1+1]).setCell ⟨w.heap.size+1+1,4,nN⟩ (nS h (Ad ts).length c1) Zh) (fun g E G=>by have:=F g E;simp at G;omega)).kept O.o (fun g E G=>by have:=F g E;simp at G;omega);refine bodyPost_ret (Bi rfl _ _ (w.heap.size+1) 111 [nI nX k,nG p,nG f,nS a n c,nS h (Ad ts).length c1,nS nN 0 0,.nilIface] _ rfl ai.o underlying111 rfl Ce) rfl ?_;have e1:=ak.o;have e2:=al.o;have e3:=aj.o;subst e1 e2 e3;have hC:Chg w A []:=Chg.step (b:=_) (by exact N.o.setCell _ _ (by simp;omega)) O.o (fun i hi hl=>by simp at hi;omega);refine⟨_,_,_,[],(fun b=>(Vl.slice h (Ad ts).length c1).ownBlock=nM b),(fun _=>False),rfl,⟨?_,(fun e=>by rw[Q.o]at e;cases e),(fun e=>by rw[ao.o]at e;cases e),am.o,(fun e=>by rw[Q.o]at e;cases e),an.o⟩,BP.nil _,(fun b m=> ?_),(fun b m=>m.elim),(fun b m=>by cases m),hC,rfl,rfl⟩
 .exact HT.o _ A A ap cR
 .have:=F b m;omega
theorem TB(o:Bq)(a:Option Addr)(n c:Nat)(w:Wl)(U:Br w)(W:o.path.size<=16777216)(O:o.frm.size<=16777216)(hk:CP o.kind=true)(ts:List BY)(L:AD o.path=nM ts)(h:List BY)(M:AD o.frm=nM h)(X:AO o.kind=true)(Y:AN o.kind=false):
  Cl prog 52 #[nA #[nI nX o.kind,nG o.path,nG o.frm,nS a n c]] w (I8 o ts h .null (nS a n c) w):=by
 have S:=UD (∀d,Cl prog 90 #[nI nX o.kind] d fun e w'=>e= nR (nT #[.bool (AO o.kind),.bool (AN o.kind),.bool true])/\Chg d w' []) fun d=>by
  have:=Jm o.kind d;rwa[hk]at this
 have HP:=UD (∀d,Chg w d []->Cl prog 58 #[nG o.path] d (FA ts d)) fun d Z=>by
  have:=D8 o.path d (U.kept Z) W;have e:AU o.path d=FA ts d:=by funext e w';unfold AU;rw[L]
  rwa[e]at this
 have HT:=UD (∀(x:Vl) (l w':Wl),AK l x 9 (Ad ts)->Chg l w' []->JC w' (fun b=>x.ownBlock=nM b) x ts) fun x l w' t T=>LL t L W T
 have ad:=UD (∀d bs,Chg w d bs->(∀b,b∈bs->10<=b)->Cl prog 58 #[nG o.frm] d (FA h d)) fun d bs Z m=>by
  have:=D8 o.frm d (U.kept Z m) O;have e:AU o.frm d=FA h d:=by funext e w';unfold AU;rw[M]
  rwa[e]at this
 have aB:=UD (∀(x:Vl) (l w':Wl),AK l x 9 (Ad h)->Chg l w' []->JC w' (fun b=>x.ownBlock=nM b) x h) fun x l w' t T=>LL t M O T
 have az:=hZ M;have ay:=hZ L;have aH:=hZ X;have aC:=hZ Y;have aA:=hZ O;obtain⟨k,K⟩:=Ue o.kind
 rw[X,Y]at S;rw[<-K]at S;obtain⟨p,N⟩:=Ue o.path
 obtain⟨f,H⟩:=Ue o.frm
 rw[<-N]at HP;rw[<-H]at ad;have aw:=hZ K;have ax:=hZ N;have av:=hZ H;rw[<-K,<-N,<-H];have BN:=UD (Ac (((w.alloc (nC #[nI nX k,nG p,nG f,nS a n c] 42)).alloc (nC (Db 0 ⟨#[]⟩ ⟨#[]⟩ (nS nN 0 0)).toArray 111)).alloc (nC (Db 0 ⟨#[]⟩ ⟨#[]⟩ (nS nN 0 0)).toArray 111)) (w.heap.size+1+1) (Db 0 ⟨#[]⟩ ⟨#[]⟩ (nS nN 0 0)) 111) (by have:=Ac.new ((w.alloc (nC #[nI nX k,nG p,nG f,nS a n c] 42)).alloc (nC (Db 0 ⟨#[]⟩ ⟨#[]⟩ (nS nN 0 0)).toArray 111)) (Db 0 ⟨#[]⟩ ⟨#[]⟩ (nS nN 0 0)) 111;simpa using this);have am:=UD (Ac (((w.alloc (nC #[nI nX k,nG p,nG f,nS a n c] 42)).alloc (nC (Db 0 ⟨#[]⟩ ⟨#[]⟩ (nS nN 0 0)).toArray 111)).alloc (nC (Db 0 ⟨#[]⟩ ⟨#[]⟩ (nS nN 0 0)).toArray 111)) (w.heap.size+1) (Db 0 ⟨#[]⟩ ⟨#[]⟩ (nS nN 0 0)) 111) ((CH w _ _ _).alloc _);have ao:=UD (Ac (((w.alloc (nC #[nI nX k,nG p,nG f,nS a n c] 42)).alloc (nC (Db 0 ⟨#[]⟩ ⟨#[]⟩ (nS nN 0 0)).toArray 111)).alloc (nC (Db 0 ⟨#[]⟩ ⟨#[]⟩ (nS nN 0 0)).toArray 111)) w.heap.size (BJ ⟨k,p,f,[]⟩ (nS a n c)) 42) (((Ac.new w (BJ ⟨k,p,f,[]⟩ (nS a n c)) 42).alloc _).alloc _);clear hk K L M U W O N H X Y;go_enter func52,ntmps52
 go_wp2_with(first
  |(refine Ae rfl _ _ _ rfl (w.heap.size+1+1) (Db k p f (nS a n c)) ZN ZN 111 (Db 0 ⟨#[]⟩ ⟨#[]⟩ (nS nN 0 0)) (by exact BN.o) Ce rfl (IK _ _ _ _ _ _) ?_;intro w0 ah ae I;have ar:=hZ ae;have aI:=hZ ah;have H0:=UD (Chg w w0 []) (Chg.step (b:=_) (by exact cg cR) I (fun i hi hl=>by simp at hi;omega));have ab:=UD (Ac w0 w.heap.size (BJ ⟨k,p,f,[]⟩ (nS a n c)) 42) (Ac.kept (w:=_) (by exact ao.o) I (by simp;omega));have ai:=UD (Ac w0 (w.heap.size+1) (Db 0 ⟨#[]⟩ ⟨#[]⟩ (nS nN 0 0)) 111) (Ac.kept (w:=_) (by exact am.o) I Zh);have x0:=ab.o.cell 0;unfold BJ at x0;simp only[Qa,Qb]at x0;clear ah ae I)
  |(go_at_call 90;refine(S.o _).mono ?_;rintro e w1 ⟨rfl,t⟩;have P:=UD (Chg w w1 []) (ct H0.o t);have G:=hZ (ab.o.kept t);have aa:=hZ (ar.o.kept t);have aj:=hZ (ai.o.kept t);have x1:=G.o.cell 1;have x2:=G.o.cell 2;have x3:=G.o.cell 3;unfold BJ at x1 x2 x3;simp only[Qa,Qb]at x1 x2 x3;clear t)
  |(go_at_call_of 53 (Vl.bool true);refine(Bv _ _).mono ?_;rintro e w2 ⟨rfl,rfl⟩)
  |(go_at_call_of 58 (Vl.string p);refine(HP.o _ (by exact cg P.o)).mono ?_;rintro e l ⟨aN,rfl,y,C,A⟩;have Q1:=hZ y;obtain⟨q,c1,rfl,_⟩:=y.form;have E:=hZ (aa.o.kept A);have an:=hZ (G.o.kept A);have ak:=hZ (aj.o.kept A);have y4:=E.o.cell 4;have z4:∀j,l.frozen? ⟨w.heap.size+1+1,j,nN⟩=false:=fun j=>E.o.frozen j;have x5:=an.o.cell 2;unfold Db at y4;unfold BJ at x5;simp only[Qa,Qb]at y4 x5;have Q:=UD (Chg w l []) (ct P.o A);have l3:=E.o.lt;have Q2:=hZ C;have ap:=hZ A;clear A y C)
  |(go_at_call_of 58 (Vl.string f);refine(ad.o _ [] (by exact Q.o.setCell _ _ (by simp;omega)) Zh).mono ?_;rintro e D ⟨aO,rfl,y,C,B⟩;have P1:=hZ y;obtain⟨r,s,rfl,_⟩:=y.form;have P2:=hZ C;have aq:=hZ B;have F:=hZ (((E.o.set 4 (nS q (Ad ts).length c1))).kept B);have al:=hZ ((ak.o.set_other ⟨w.heap.size+1+1,4,nN⟩ (nS q (Ad ts).length c1) Zh).kept B);have y5:=F.o.cell 5;have z5:∀j,D.frozen? ⟨w.heap.size+1+1,j,nN⟩=false:=fun j=>F.o.frozen j;have l5:=F.o.lt;unfold Db at y5;simp only[Qa,Qb,List.set_cons_zero,List.set_cons_succ]at y5;have H5:=UD (Chg w D []) (Chg.trans (b:=_) (by exact Q.o.setCell _ _ (by simp;omega)) B);clear B y C)
  |(refine Bp rfl _ _ rfl (w.heap.size+1+1) ZN 111 [nI nX k,nG p,nG f,nS a n c,nS q (Ad ts).length c1,nS r (Ad h).length s,.nilIface] (by exact F.o.set 5 (nS r (Ad h).length s)) _ underlying111 rfl Ce ?_)
  |(refine Ae rfl _ _ _ rfl (w.heap.size+1) [nI nX k,nG p,nG f,nS a n c,nS q (Ad ts).length c1,nS r (Ad h).length s,.nilIface] ZN ZN 111 (Db 0 ⟨#[]⟩ ⟨#[]⟩ (nS nN 0 0)) (by exact al.o.set_other _ _ Zh) Ce rfl (by simp[Vl.oneCell']) ?_;intro z aG af ag;have au:=hZ af;have R:=hZ ag;clear aG af ag))
 have aL:=Q.o.size;have aJ:=aa.o.lt;have J:∀b,(Vl.slice q (Ad ts).length c1).ownBlock=nM b->w1.heap.size<=b:=fun b m=>Q2.o.ge b (by rw[m];simp)
 have aK:=P.o.size;have aM:=ap.o.size;have V:∀b,(Vl.slice r (Ad h).length s).ownBlock=nM b->l.heap.size<=b:=fun b m=>by have:=P2.o.ge b (by rw[m];simp);simpa using this
 have aD:AK D (nS q (Ad ts).length c1) 9 (Ad ts):=(Q1.o.kept ((Chg.refl l [w.heap.size+1+1]).setCell ⟨w.heap.size+1+1,4,nN⟩ (nS q (Ad ts).length c1) Zh) (fun g u v=>by have:=J g u;simp at v;omega)).kept aq.o;have aE:AK z (nS q (Ad ts).length c1) 9 (Ad ts):=(aD.kept ((Chg.refl D [w.heap.size+1+1]).setCell ⟨w.heap.size+1+1,5,nN⟩ (nS r (Ad h).length s) Zh) (fun g u v=>by have:=J g u;simp at v;omega)).kept R.o (fun g u v=>by have:=J g u;simp at v;omega);have aF:AK z (nS r (Ad h).length s) 9 (Ad h):=(P1.o.kept ((Chg.refl D [w.heap.size+1+1]).setCell ⟨w.heap.size+1+1,5,nN⟩ (nS r (Ad h).length s) Zh) (fun g u v=>by have:=V g u;simp at v;omega)).kept R.o (fun g u v=>by have:=V g u;simp at v;omega);refine bodyPost_ret (Bi rfl _ _ (w.heap.size+1) 111 [nI nX k,nG p,nG f,nS a n c,nS q (Ad ts).length c1,nS r (Ad h).length s,.nilIface] _ rfl au.o underlying111 rfl Ce) rfl ?_;have e1:=aw.o;have e2:=ax.o;have e3:=av.o;subst e1 e2 e3;have hC:Chg w z []:=Chg.step (b:=_) (by exact H5.o.setCell _ _ (by simp;omega)) R.o (fun i hi hl=>by simp at hi;omega);refine⟨_,_,_,[],(fun b=>(Vl.slice q (Ad ts).length c1).ownBlock=nM b),(fun b=>(Vl.slice r (Ad h).length s).ownBlock=nM b),rfl,⟨?_,(fun _=>aB.o _ z z aF cR),(fun e=>by rw[aC.o]at e;cases e),ay.o,(fun _=>az.o),aA.o⟩,BP.nil _,(fun b m=> ?_),(fun b m=> ?_),(fun b m=>by cases m),hC,rfl,rfl⟩
 .exact HT.o _ z z aE cR
 .have:=J b m;omega
 .have:=V b m;omega
theorem Xv(o:Bq)(a:Option Addr)(n c:Nat)(w:Wl)(hL:Br w)(hs:o.path.size<=16777216)(ap:o.frm.size<=16777216)(hk:CP o.kind=true)(ts:List BY)(S:AD o.path=nM ts)(x:Tr)(U:AN o.kind=true)(ys:List Vl)(hR:As w (nS a n c) 6 o.steps.length ys)(hS:Az w o.steps ys)(l:∀s∈o.steps,Di s)(ao:o.steps.length<=4294967296)(N:AS o.steps=nM x):
  Cl prog 52 #[nA #[nI nX o.kind,nG o.path,nG o.frm,nS a n c]] w (I8 o ts [] x (nS a n c) w):=by
 have HU:=UD (∀d,Cl prog 90 #[nI nX o.kind] d fun e w'=>e= nR (nT #[.bool (AO o.kind),.bool (AN o.kind),.bool true])/\Chg d w' []) fun d=>by
  have:=Jm o.kind d;rwa[hk]at this
 have HP:=UD (∀d,Chg w d []->Cl prog 58 #[nG o.path] d (FA ts d)) fun d V=>by
  have:=D8 o.path d (hL.kept V) hs;have e:AU o.path d=FA ts d:=by funext e w';unfold AU;rw[S]
  rwa[e]at this
 have HT:=UD (∀(W:Vl) (z w':Wl),AK z W 9 (Ad ts)->Chg z w' []->JC w' (fun b=>W.ownBlock=nM b) W ts) fun W z w' m C=>LL m S hs C
 have ad:=FD l N;have aG:=hZ ad;have ae:=(Ar ad.fits).1
 have HB:=UD (∀d,Chg w d []->Cl prog 28 #[nS a n c] d (fun e w'=>∃(r:Nat->Prop) (y:Nat),e= nR (nT #[nP (nM ⟨y,0,nN⟩),.nilIface])/\CG w' r y x/\(∀b,r b->b<w'.heap.size)/\Chg d w' [])) fun d V=>by
  have:=Fk o.steps _ ys d (hR.kept V) (hS.kept V) l ao;refine this.mono fun e w' h=> ?_
  unfold BO at h;unfold AS at N;rw[N]at h;obtain⟨⟨r,y,m,C,B,_⟩,h4⟩:=h;exact⟨r,y,m,C,B,h4⟩
 have aM:=UD (∀r y d,CG d r y x->(∀b,r b->b<d.heap.size)->Cl prog 68 #[nP (nM ⟨y,0,nN⟩)] d (Ht x d)) fun r y d m C=>M9 x r y d m C ae
 have aI:=UD (∀D v d,Hm d D x v->(∀b,D b->b<d.heap.size)->Cl prog 76 #[v] d (SF x d)) fun D v d m C=>ab _ x D v d (Q8 _) ae m C
 have af:=Nd U;have aK:=hZ S;have ak:=hZ af;have aT:=hZ U;have aL:=hZ ap;obtain⟨k,R⟩:=Ue o.kind
 rw[af,U]at HU;rw[<-R]at HU;obtain⟨p,T⟩:=Ue o.path
 obtain⟨f,aa⟩:=Ue o.frm
 rw[<-T]at HP;have aH:=hZ R;have aJ:=hZ T;have aF:=hZ aa;rw[<-R,<-T,<-aa];have BN:=UD (Ac (((w.alloc (nC #[nI nX k,nG p,nG f,nS a n c] 42)).alloc (nC (Db 0 ⟨#[]⟩ ⟨#[]⟩ (nS nN 0 0)).toArray 111)).alloc (nC (Db 0 ⟨#[]⟩ ⟨#[]⟩ (nS nN 0 0)).toArray 111)) (w.heap.size+1+1) (Db 0 ⟨#[]⟩ ⟨#[]⟩ (nS nN 0 0)) 111) (by have:=Ac.new ((w.alloc (nC #[nI nX k,nG p,nG f,nS a n c] 42)).alloc (nC (Db 0 ⟨#[]⟩ ⟨#[]⟩ (nS nN 0 0)).toArray 111)) (Db 0 ⟨#[]⟩ ⟨#[]⟩ (nS nN 0 0)) 111;simpa using this);have ay:=UD (Ac (((w.alloc (nC #[nI nX k,nG p,nG f,nS a n c] 42)).alloc (nC (Db 0 ⟨#[]⟩ ⟨#[]⟩ (nS nN 0 0)).toArray 111)).alloc (nC (Db 0 ⟨#[]⟩ ⟨#[]⟩ (nS nN 0 0)).toArray 111)) (w.heap.size+1) (Db 0 ⟨#[]⟩ ⟨#[]⟩ (nS nN 0 0)) 111) ((CH w _ _ _).alloc _);have aA:=UD (Ac (((w.alloc (nC #[nI nX k,nG p,nG f,nS a n c] 42)).alloc (nC (Db 0 ⟨#[]⟩ ⟨#[]⟩ (nS nN 0 0)).toArray 111)).alloc (nC (Db 0 ⟨#[]⟩ ⟨#[]⟩ (nS nN 0 0)).toArray 111)) w.heap.size (BJ ⟨k,p,f,[]⟩ (nS a n c)) 42) (((Ac.new w (BJ ⟨k,p,f,[]⟩ (nS a n c)) 42).alloc _).alloc _);clear hk R S hL hs ap T aa af U hR hS l ao N ad ae;go_enter func52,ntmps52
 go_wp2_with(first
  |(refine Ae rfl _ _ _ rfl (w.heap.size+1+1) (Db k p f (nS a n c)) ZN ZN 111 (Db 0 ⟨#[]⟩ ⟨#[]⟩ (nS nN 0 0)) (by exact BN.o) Ce rfl (IK _ _ _ _ _ _) ?_;intro w0 ar al P;have aD:=hZ al;have aU:=hZ ar;have H0:=UD (Chg w w0 []) (Chg.step (b:=_) (by exact cg cR) P (fun i hi hl=>by simp at hi;omega));have ah:=UD (Ac w0 w.heap.size (BJ ⟨k,p,f,[]⟩ (nS a n c)) 42) (Ac.kept (w:=_) (by exact aA.o) P (by simp;omega));have au:=UD (Ac w0 (w.heap.size+1) (Db 0 ⟨#[]⟩ ⟨#[]⟩ (nS nN 0 0)) 111) (Ac.kept (w:=_) (by exact ay.o) P Zh);have x0:=ah.o.cell 0;unfold BJ at x0;simp only[Qa,Qb]at x0;clear ar al P)
  |(go_at_call 90;refine(HU.o _).mono ?_;rintro e w1 ⟨rfl,m⟩;have X:=UD (Chg w w1 []) (ct H0.o m);have M:=hZ (ah.o.kept m);have ag:=hZ (aD.o.kept m);have av:=hZ (au.o.kept m);have x1:=M.o.cell 1;have x2:=M.o.cell 2;have x3:=M.o.cell 3;unfold BJ at x1 x2 x3;simp only[Qa,Qb]at x1 x2 x3;clear m)
  |(go_at_call_of 53 (Vl.bool true);refine(Bv _ _).mono ?_;rintro e w2 ⟨rfl,rfl⟩)
  |(go_at_call_of 58 (Vl.string p);refine(HP.o _ (by exact cg X.o)).mono ?_;rintro e z ⟨a1,rfl,q,u,B⟩;have Q1:=hZ q;obtain⟨t,c1,rfl,_⟩:=q.form;have K:=hZ (ag.o.kept B);have az:=hZ (M.o.kept B);have aw:=hZ (av.o.kept B);have y4:=K.o.cell 4;have z4:∀j,z.frozen? ⟨w.heap.size+1+1,j,nN⟩=false:=fun j=>K.o.frozen j;have x5:=az.o.cell 3;unfold Db at y4;unfold BJ at x5;simp only[Qa,Qb]at y4 x5;have Y:=UD (Chg w z []) (ct X.o B);have l3:=K.o.lt;have Q2:=hZ u;have aB:=hZ B;clear B q u)
  |(go_at_call 28;refine(HB.o _ (by exact Y.o.setCell _ _ (by simp;omega))).mono ?_;rintro e w5 ⟨r,y,rfl,q,u,h5⟩;have T1:=hZ q;have T2:=hZ u;have ai:=hZ h5;clear h5 q u)
  |(go_at_call 68;refine(aM.o r y _ T1.o T2.o).mono ?_;rintro e w6 ⟨vv,D,rfl,q,h6,u⟩;have V1:=hZ q;have V2:=hZ u;have aj:=hZ h6;clear h6 q u)
  |(go_at_call 76;refine(aI.o D vv _ V1.o (fun b l=>(V2.o b l).2)).mono ?_;rintro e F ⟨vx,bx,rfl,q,u,h8⟩;have aS:=hZ h8;have H:=ai.o.trans (aj.o.trans h8);have aC:=hZ H;have N2:=hZ u;obtain⟨E,G,rfl⟩:=q.iface;have N1:=hZ q;have L:=hZ (((K.o.set 4 (nS t (Ad ts).length c1))).kept H);have ax:=hZ ((aw.o.set_other ⟨w.heap.size+1+1,4,nN⟩ (nS t (Ad ts).length c1) Zh).kept H);have y6:=L.o.cell 6;have z6:∀j,F.frozen? ⟨w.heap.size+1+1,j,nN⟩=false:=fun j=>L.o.frozen j;have l8:=L.o.lt;unfold Db at y6;simp only[Qa,Qb,List.set_cons_zero,List.set_cons_succ]at y6;have H8:=UD (Chg w F []) (Chg.trans (b:=_) (by exact Y.o.setCell _ _ (by simp;omega)) H);clear h8 H q u)
  |(refine Bp rfl _ _ rfl (w.heap.size+1+1) ZN 111 [nI nX k,nG p,nG f,nS a n c,nS t (Ad ts).length c1,nS nN 0 0,nF E G] (by exact L.o.set 6 (nF E G)) _ underlying111 rfl Ce ?_)
  |(refine Ae rfl _ _ _ rfl (w.heap.size+1) [nI nX k,nG p,nG f,nS a n c,nS t (Ad ts).length c1,nS nN 0 0,nF E G] ZN ZN 111 (Db 0 ⟨#[]⟩ ⟨#[]⟩ (nS nN 0 0)) (by exact ax.o.set_other _ _ Zh) Ce rfl (by simp[Vl.oneCell']) ?_;intro J aR am an;have aE:=hZ am;have Z:=hZ an;clear aR am an))
 have aX:=Y.o.size;have aV:=ag.o.lt;have Q:∀b,(Vl.slice t (Ad ts).length c1).ownBlock=nM b->w1.heap.size<=b:=fun b l=>Q2.o.ge b (by rw[l];simp)
 have aQ:∀b,(Vl.slice t (Ad ts).length c1).ownBlock=nM b->b<z.heap.size:=fun b l=>Q1.o.lt l
 have aW:=X.o.size;have aY:=aB.o.size;have aZ:z.heap.size<=w5.heap.size:=by simpa using ai.o.size
 have a0:=aj.o.size;have O:∀b,b∈bx->z.heap.size<=b:=fun b l=>by have:=N2.o.ge b l;omega
 have aO:AK F (nS t (Ad ts).length c1) 9 (Ad ts):=(Q1.o.kept ((Chg.refl z [w.heap.size+1+1]).setCell ⟨w.heap.size+1+1,4,nN⟩ (nS t (Ad ts).length c1) Zh) (fun g I A=>by have:=Q g I;simp at A;omega)).kept aC.o;have aq:Chg F (F.setCell ⟨w.heap.size+1+1,6,nN⟩ (nF E G)) [w.heap.size+1+1]:=(Chg.refl F _).setCell _ _ Zh;have aN:AK J (nS t (Ad ts).length c1) 9 (Ad ts):=(aO.kept aq (fun g I A=>by have:=Q g I;simp at A;omega)).kept Z.o (fun g I A=>by have:=Q g I;simp at A;omega);have aP:AP J x (nF E G) bx:=(N1.o.chg aq (fun b l A=>by have:=O b A;simp at l;omega)).chg Z.o (fun b l A=>by have:=O b A;simp at l;omega);refine bodyPost_ret (Bi rfl _ _ (w.heap.size+1) 111 [nI nX k,nG p,nG f,nS a n c,nS t (Ad ts).length c1,nS nN 0 0,nF E G] _ rfl aE.o underlying111 rfl Ce) rfl ?_;have e1:=aH.o;have e2:=aJ.o;have e3:=aF.o;subst e1 e2 e3;have hC:Chg w J []:=Chg.step (b:=_) (by exact H8.o.setCell _ _ (by simp;omega)) Z.o (fun i hi hl=>by simp at hi;omega);refine⟨_,_,_,bx,(fun b=>(Vl.slice t (Ad ts).length c1).ownBlock=nM b),(fun _=>False),rfl,⟨?_,(fun e=>by rw[ak.o]at e;cases e),(fun _=>⟨aP,aG.o⟩),aK.o,(fun e=>by rw[ak.o]at e;cases e),aL.o⟩,⟨N2.o.nodup,fun b l=>by have:=O b l;omega⟩,(fun b l=> ?_),(fun b l=>l.elim),(fun b l=>⟨fun h=> ?_,fun h=>h⟩),hC,rfl,rfl⟩
 .exact HT.o _ J J aN cR
 .have:=Q b l;omega
 .have:=O b l;have:=aQ b h;omega
structure T7(o:Bq):Prop where
 path:o.path.size<=16777216
 frm:o.frm.size<=16777216
 steps:∀s∈o.steps,Di s
 len:o.steps.length<=4294967296
def Co(o:Bq)(sv:Vl)(w:Wl)(e:Ending)(w':Wl):Prop:=
 if Bn o≠0 then AZ (Bn o) [] w e w' else∃b a x,I8 o b a x sv w e w'/\(AN o.kind=true->AS o.steps=nM x)
theorem Iu{k:Int}:CP k=true↔¬(k<1\/6<k):=by
 unfold CP;rw[decide_eq_true_iff];omega
theorem Co.no{o:Bq}{sv:Vl}{w:Wl}{n:Nat}(h:Bn o=n)(a:n≠0):Co o sv w=AZ n [] w:=by
 funext e w';unfold Co;rw[h,Qr a]
theorem Co.yes{o:Bq}{sv:Vl}{w w':Wl}{e:Ending}{b a:List BY}{x:Tr}(h:Bn o=0)(c:I8 o b a x sv w e w')(d:AN o.kind=true->AS o.steps=nM x):Co o sv w e w':=by
 unfold Co;rw[h,Qs Zh];exact⟨b,a,x,c,d⟩
theorem SN{o:Bq}(a:CP o.kind=false):Bn o=170:=by
 have:¬CP o.kind=true:=by simp[a]
 rw[Iu,Classical.not_not]at this;unfold Bn;rw[Qr this]
theorem LT{o:Bq}(a:CP o.kind=true)(b:AD o.path=nN\/(AO o.kind=true/\AD o.frm=nN)):Bn o=171:=by
 unfold Bn;rw[Qs (Iu.1 a),Qr b]
theorem GH{o:Bq}(a:CP o.kind=true)(b:¬(AD o.path=nN\/(AO o.kind=true/\AD o.frm=nN))):Bn o=if AN o.kind=true/\(AS o.steps).isNone=true then 174 else 0:=by
 unfold Bn;rw[Qs (Iu.1 a),Qs b]
theorem Xu(o:Bq)(sv:Vl)(ys:List Vl)(w:Wl)(k:Br w)(b:T7 o)(p:As w sv 6 o.steps.length ys)(r:Az w o.steps ys):
  Cl prog 52 #[nA (BJ o sv).toArray] w (Co o sv w):=by
 obtain⟨a,c,rfl,t,u⟩:=p.form
 cases d:CP o.kind with
 |false=>
  rw[Co.no (SN d) ZM];exact RF o a _ c w d
 |true=>
  cases g:AD o.path with
  |none=>
   rw[Co.no (LT d (.inl g)) ZM];exact RH o a _ c w k b.path d g
  |some ts=>
   cases i:AO o.kind with
   |true=>
    have f:AN o.kind=false:=by
     cases h:AN o.kind with
     |false=>rfl
     |true=>rw[Nd h]at i;cases i
    cases n:AD o.frm with
    |none=>
     rw[Co.no (LT d (.inr ⟨i,n⟩)) ZM];exact RE o a _ c w k b.path b.frm d ts g i n
    |some s=>
     have j:Bn o=0:=by
      rw[GH d (by rw[g,n];simp),f];simp
     exact(TB o a _ c w k b.path b.frm d ts g s n i f).mono fun e w' h=>Co.yes j h (fun l=>by rw[f]at l;cases l)
   |false=>
    have q:¬(AD o.path=nN\/(AO o.kind=true/\AD o.frm=nN)):=by rw[g,i];simp
    cases f:AN o.kind with
    |false=>
     have j:Bn o=0:=by rw[GH d q,f];simp
     exact(RG o a _ c w k b.path b.frm d ts g i f).mono fun e w' h=>Co.yes j h (fun l=>by rw[f]at l;cases l)
    |true=>
     cases m:AS o.steps with
     |none=>
      have j:Bn o=174:=by rw[GH d q,f,m];simp
      rw[Co.no j ZM];exact TC o a _ c w k b.path d ts g f ys p r b.steps b.len m
     |some x=>
      have j:Bn o=0:=by rw[GH d q,f,m];simp
      exact(Xv o a _ c w k b.path b.frm d ts g x f ys p r b.steps b.len m).mono fun e w' h=>Co.yes j h (fun _=>m)
theorem VL{t:Tr}{o:Bq}{j g:List BY}{x:Tr}(h:Bn o=0)(l:AD o.path=nM j)(i:AO o.kind=true->AD o.frm=nM g)(f:AN o.kind=true->AS o.steps=nM x):
  Da t o j g x=Gz t o:=by
 unfold Gz;rw[h,Qs Zh,l,Option.getD_some];unfold Da;by_cases a:o.kind=1
 .rw[Qr a,Qr a,f (by rw[a];rfl)];rfl
 rw[Qs a,Qs a];by_cases e:o.kind=2
 .rw[Qr e,Qr e]
 rw[Qs e,Qs e];by_cases b:o.kind=3
 .rw[Qr b,Qr b,f (by rw[b];rfl)];rfl
 rw[Qs b,Qs b];by_cases c:o.kind=4
 .rw[Qr c,Qr c,i (by rw[c];rfl)];rfl
 rw[Qs c,Qs c];by_cases d:o.kind=5
 .rw[Qr d,Qr d,i (by rw[d];rfl)];rfl
 rw[Qs d,Qs d]
 have k:o.kind=6:=by
  have:=(EK h).1;omega
 rw[f (by rw[k];rfl)];rfl
end
section
open Go Go.Shelf Go.RowKit Go.Lib Tree Ptr
def CI(w:Wl)(G:Nat->Prop):List (List Bq)->List Vl->Prop
 |[],vs=>vs=[]
 |os::b,vs=>∃a xs r,vs=a::r/\As w a 4 os.length xs/\SE G a/\Eh w G os xs/\CI w G b r
theorem CI.kept{w w':Wl}{F G:Nat->Prop}(d:BZ F w w')(c:∀b,F b->G b):∀{a:List (List Bq)} {vs:List Vl},CI w F a vs->CI w' G a vs
 |[],_,h=>h
 |os::a,_,⟨k,xs,r,f,g,e,i,j⟩=>⟨k,xs,r,f,g.keptF e d,e.mono c,i.kept d c,j.kept d c⟩
theorem CI.snoc{w:Wl}{G:Nat->Prop}{os:List Bq}{b:Vl}{xs:List Vl}(d:As w b 4 os.length xs)(e:SE G b)(f:Eh w G os xs):∀{c:List (List Bq)} {vs:List Vl},CI w G c vs->CI w G (c++[os]) (vs++[b])
 |[],_,h=>by unfold CI at h;subst h;exact⟨b,xs,[],rfl,d,e,f,rfl⟩
 |a::c,_,⟨m,n,r,g,i,j,k,l⟩=>⟨m,n,r++[b],by rw[g];rfl,i,j,k,l.snoc d e f⟩
theorem CI.length{w:Wl}{G:Nat->Prop}:∀{b:List (List Bq)} {vs:List Vl},CI w G b vs->vs.length=b.length
 |[],_,h=>by unfold CI at h;subst h;rfl
 |a::b,_,⟨i,xs,r,c,e,f,g,d⟩=>by rw[c,Qj,d.length];rfl
theorem CI.get{w:Wl}{G:Nat->Prop}:∀{d:List (List Bq)} {vs:List Vl},CI w G d vs->∀(i:Nat) (os:List Bq),d[i]? =nM os->∃c xs,vs[i]? =nM c/\As w c 4 os.length xs/\SE G c/\Eh w G os xs
 |[],_,_,i,os,b=>by simp at b
 |a::d,_,⟨c,xs,r,e,f,g,h,j⟩,i,os,b=>by
  subst e
  cases i with
  |zero=>simp at b;subst b;exact⟨c,xs,rfl,f,g,h⟩
  |succ i=>obtain⟨m,n,k,l⟩:=j.get i os (by simpa using b);exact⟨m,n,by simpa using k,l⟩
theorem CI.one{w:Wl}{G:Nat->Prop}:∀{d:List (List Bq)} {vs:List Vl},CI w G d vs->∀u∈vs,u.oneCell'=true
 |[],_,h,u,b=>by unfold CI at h;subst h;cases b
 |a::d,_,⟨l,xs,r,e,f,j,k,g⟩,u,b=>by
  subst e;obtain⟨i,c,rfl,_⟩:=f.form
  rcases Qh.1 b with rfl|b
  .rfl
  .exact g.one u b
structure PO(w0 w:Wl)(W:Nat)(t:Tr)(gs:List (List Bq))(v uv:Vl)(bs:List Nat)(vs:List Vl)(G:Nat->Prop):Prop where
 wat:Hu w W t v uv bs
 nodup:(W::bs).Nodup
 ge:∀b,b∈W::bs->w0.heap.size<=b
 row:AK w uv 23 vs
 grp:CI w G gs vs
 gnew:∀b,G b->w0.heap.size<=b/\b<w.heap.size
 gap:∀b,b∈W::bs->¬G b
 uown:∀g,uv.ownBlock=nM g->w0.heap.size<=g/\g∉W::bs/\¬G g
def Dj(W:Nat)(a:Vl)(bs:List Nat):List Nat:=a.ownBlock.toList++W::bs
theorem PO.kept{w0 w w':Wl}{W:Nat}{t:Tr}{i:List (List Bq)}{v f:Vl}{bs:List Nat}{vs:List Vl}{G:Nat->Prop}{cs:List Nat}(h:PO w0 w W t i v f bs vs G)(c:Chg w w' cs)(d:∀b,b∈cs->b∉Dj W f bs/\¬G b:=by simp):PO w0 w' W t i v f bs vs G:=by
 have k:BZ G w w':=c.keepsF (fun b a=>(h.gnew b a).2) (fun b a=>(d b a).2);refine⟨h.wat.kept c (fun b a e=>(d b a).1 (Qd _ e)),h.nodup,h.ge,h.row.kept c (fun g j e=>(d g e).1 (Qe _ (by simp[j]))),h.grp.kept k (fun _ h=>h),(fun b a=> ?_),h.gap,h.uown⟩;have:=h.gnew b a;have:=c.size;omega
theorem PO.ltAll{w0 w:Wl}{W:Nat}{t:Tr}{d:List (List Bq)}{v c:Vl}{bs:List Nat}{vs:List Vl}{G:Nat->Prop}(h:PO w0 w W t d v c bs vs G):∀b,b∈Dj W c bs->b<w.heap.size:=by
 intro b a
 rcases Qf.1 a with a|a
 .exact h.row.lt (by simpa using a)
 .rcases Qh.1 a with rfl|a
  .exact h.wat.blk.lt
  .exact AP.lt _ _ _ h.wat.at_ b a
structure Y3(w4 w:Wl)(W:Nat)(uv:Vl)(old:List Nat)(t':Tr)(os:List Bq)(sl:Vl)(xs:List Vl)(G2:Nat->Prop)(v':Vl)(bs':List Nat):Prop where
 ops:EW w4 w os sl xs G2
 wat:Hu w W t' v' uv bs'
 own:DJ w4 old (W::bs')
 apart:∀b,b∈W::bs'->¬G2 b
theorem Y3.kept{l w w':Wl}{W:Nat}{j:Vl}{f:List Nat}{i:Tr}{os:List Bq}{g:Vl}{xs:List Vl}{G2:Nat->Prop}{k:Vl}{a:List Nat}{cs:List Nat}(h:Y3 l w W j f i os g xs G2 k a)(d:Chg w w' cs)(e:∀b,b∈cs->b∉W::a/\¬G2 b:=by simp):Y3 l w' W j f i os g xs G2 k a:=
 ⟨h.ops.kept d (fun b c=>(e b c).2) (Q8 _),h.wat.kept d (fun b c=>(e b c).1),h.own,h.apart⟩
theorem PO.next{w0 k w w':Wl}{W:Nat}{t s:Tr}{y:List (List Bq)}{v m x u:Vl}{bs q l:List Nat}{vs xs:List Vl}{G G2:Nat->Prop}{os:List Bq}{g n c:Nat}{cs:List Nat}(h:PO w0 k W t y v m bs vs G)(B:∀b,b∈q->w0.heap.size<=b/\¬G b/\m.ownBlock≠nM b)(f:Y3 k w W m (W::(q++bs)) s os u xs G2 x l)(L:∀b,b∈cs->b<k.heap.size->b∈m.ownBlock.toList++W::(q++bs))(C:Chg k w cs)(K:AK w (nS (nM ⟨g,0,nN⟩) n c) 23 (vs++[u]))(j:m.ownBlock=nM g\/k.heap.size<=g)(D:g∉W::l)(M:¬G2 g)(S:w0.heap.size<=k.heap.size)(p:Chg w w' [W])(I:Ac w' W [x,nI nX (Ag s).nodes,nI nX (Ag s).bytes,nS (nM ⟨g,0,nN⟩) n c] 98):
  PO w0 w' W s (y++[os]) x (nS (nM ⟨g,0,nN⟩) n c) l (vs++[u]) (fun b=>G b\/G2 b):=by
 have P:∀b,b∈l->b≠W:=fun b a e=>by subst e;exact(List.nodup_cons.1 f.own.nodup).1 a
 have A:W∈W::l:=Zh
 have z:¬G W:=h.gap W Zh
 have F:∀b,b∈m.ownBlock.toList++W::(q++bs)->¬G b:=fun b a=>by
  rcases Qf.1 a with a|a
  .exact(h.uown b (by simpa using a)).2.2
  .rcases Qh.1 a with rfl|a
   .exact z
   .rcases Qf.1 a with a|a
    .exact(B b a).2.1
    .exact h.gap b (Qg _ a)
 have N:BZ G k w:=C.keepsF (fun b a=>(h.gnew b a).2) (fun b a d=>F b (L b a (h.gnew b d).2) d);have Q:=C.size;have O:BZ G w w':=p.keepsF (fun b a=>Q6 (h.gnew b a).2 Q) (fun b a=>by simp at a;subst a;exact z);have E:BZ G2 w w':=p.keepsF (fun b a=>(f.ops.new b a).2) (fun b a=>by simp at a;subst a;exact f.apart _ A)
 have J:∀b,b∈W::l->¬G b:=fun b a d=>by
  rcases f.own.come b a with i|i
  .exact F b (Qd _ i) d
  .have:=(h.gnew b d).2;omega
 have T:=p.size;refine⟨⟨I,f.wat.at_.chg p (fun b a r=>by simp at a;exact P b r a),f.wat.fine⟩,f.own.nodup,fun b a=> ?_,K.kept p (fun H o r=> ?_), ?_,fun b a=> ?_,fun b a d=> ?_,fun H o=> ?_⟩
 .rcases f.own.come b a with i|i
  .rcases Qh.1 i with rfl|i
   .exact h.ge _ Zh
   .rcases Qf.1 i with i|i
    .exact(B b i).1
    .exact h.ge b (Qg _ i)
  .omega
 .simp[Vl.ownBlock]at o r;subst o;subst r;exact D A
 .have R:=(h.grp.kept N (fun _ h=>h)).kept O (fun b a=>(Or.inl a:G b\/G2 b))
  exact R.snoc (f.ops.row.keptF f.ops.inn E) (f.ops.inn.mono fun b a=> .inr a) (f.ops.ops.kept E fun b a=> .inr a)
 .rcases a with a|a
  .have:=h.gnew b a;omega
  .have:=f.ops.new b a;omega
 .rcases d with d|d
  .exact J b a d
  .exact f.apart b a d
 .simp[Vl.ownBlock]at o;subst o
  refine⟨?_,D,fun d=> ?_⟩
  .rcases j with j|j
   .exact(h.uown _ j).1
   .omega
  .rcases d with d|d
   .rcases j with j|j
    .exact(h.uown _ j).2.2 d
    .have:=(h.gnew _ d).2;omega
   .exact M d
end
section
open _root_.Go.Proofs.Tryz
open Go Go.Shelf Go.RowKit Go.Lib Tree Ptr
theorem Ru{P:Program}{o:Oper}{a:Act}{Q:Exit->Act->Wl->Prop}{K:Act->Wl->Prop}{w:Wl}(r x:Operand)(q:Array Ti)(i:o.op= .call {callee:= .value r,args:=#[x],argTypes:=q})(n:Nat)(p u:Vl)(l:a.eval r= .func (.func n) #[p] #[])(m:a.eval x=u)(f:(callFunc n #[p,u]).run P w= .ok (.enter n #[p,u]) w)(R:Ending->Wl->Prop)(d:Cl P n #[p,u] w R)(c:∀e w2,R e w2->(∃v,e= nR v/\K (a.put o.dst v) w2)\/(∃b,e= .panicked b/\Q (.panic b) a w2)):Oper.wp P o a w K Q:=by
 unfold Oper.wp
 have g:(execOp a.eval o).run P w= .ok (.enter n #[p,u]) w:=by
  simp[execOp,i,resolve,invoke,l,m,Deferred.ofValue,f]
 rw[g];refine d.mono fun e w2 h=> ?_
 rcases c e w2 h with⟨u,rfl,k⟩|⟨b,rfl,j⟩
 .exact k
 .exact j
theorem UR{W m n:Nat}{p:Vl}(h:(HJ W)[m]? =nM (.func (.func n) #[p] #[])):∀(args:Array Vl) (w:Wl),(callFunc n args).run prog w= .ok (.enter n args) w:=by
 have a:m<6:=(Qc.1 h).1;unfold HJ at h
 match m,a with
 |0,_=>simp at h;obtain⟨rfl,_⟩:=h;exact fun _ _=>Yb
 |1,_=>simp at h;obtain⟨rfl,_⟩:=h;exact fun _ _=>Yb
 |2,_=>simp at h;obtain⟨rfl,_⟩:=h;exact fun _ _=>Yb
 |3,_=>simp at h;obtain⟨rfl,_⟩:=h;exact fun _ _=>Yb
 |4,_=>simp at h;obtain⟨rfl,_⟩:=h;exact fun _ _=>Yb
 |5,_=>simp at h;obtain⟨rfl,_⟩:=h;exact fun _ _=>Yb
def Y6(w0:Wl)(W:Nat)(g:List (List Bq))(a:Vl)(bs:List Nat)(G:Nat->Prop)(r:PV)(w:Wl)(e:Ending)(w':Wl):Prop:=match r with
 | .no k=>e=By k/\Chg w w' (Dj W a bs)
 | .yes h i=>e= nR (nT #[])/\Chg w w' (Dj W a bs)/\∃j f d l c,PO w0 w' W h (g++[i.reverse.map CW.toI]) j f d l c/\(∀b,b∈Dj W f d->b∈Dj W a bs\/w.heap.size<=b)/\∀b,c b->G b\/w.heap.size<=b
def CK(w0:Wl)(W:Nat)(t:Tr)(a:List (List Bq))(b:Vl)(bs:List Nat)(G:Nat->Prop)(o:Bq)(w:Wl)(e:Ending)(w':Wl):Prop:=Y6 w0 W a b bs G (Gz t o) w e w'
theorem UH.kept{w w':Wl}{o:Bq}{f e:List BY}{x:Tr}{slp g i:Vl}{d:List Nat}{F c:Nat->Prop}(h:UH w o f e x slp g i d F c)(b:Chg w w' []):UH w' o f e x slp g i d F c:=
 ⟨h.tpath.kept b,fun a=>(h.tfrm a).kept b,fun a=>⟨(h.val a).1.chg b Zh,(h.val a).2⟩,h.pathP,h.frmP,h.small⟩
theorem I8.below{o:Bq}{r i:List BY}{x:Tr}{sv:Vl}{w w':Wl}{e:Ending}(h:I8 o r i x sv w e w'):
  ∃slp f g d F c,e= nR (nA #[nI nX o.kind,nG o.path,nG o.frm,sv,slp,f,g])/\UH w' o r i x slp f g d F c/\BP w d/\(∀b,F b->w.heap.size<=b)/\(∀b,c b->w.heap.size<=b)/\(∀b,b∈d->¬F b/\¬c b)/\(∀b,b∈d->b<w'.heap.size)/\Chg w w' []/\f.oneCell'=true/\g.oneCell'=true:=by
 obtain⟨slp,f,g,d,F,c,j,a,s,k,l,t,m,n,p⟩:=h;by_cases q:AN o.kind=true
 .exact⟨slp,f,g,d,F,c,j,a,s,k,l,t,fun b u=>AP.lt _ _ _ (a.val q).1 b u,m,n,p⟩
 .exact⟨slp,f,g,[],F,c,j,⟨a.tpath,a.tfrm,fun h=>absurd h q,a.pathP,a.frmP,a.small⟩,BP.nil w,k,l,Zh,Zh,m,n,p⟩
theorem aB{k:Int}{p f:BY}{sv slp b c:Vl}(d:sv.oneCell'=true)(e:slp.oneCell'=true)(g:b.oneCell'=true)(h:c.oneCell'=true):∀u∈[Vl.int nX k,nG p,nG f,sv,slp,b,c],u.oneCell'=true:=by
 intro u a;simp only[Qh,List.not_mem_nil,or_false]at a
 rcases a with rfl|rfl|rfl|rfl|rfl|rfl|rfl
 .rfl
 .rfl
 .rfl
 .exact d
 .exact e
 .exact g
 .exact h
theorem Bd{P:Program}{o:Oper}{a:Act}{w:Wl}{Q:Exit->Act->Wl->Prop}{K:Act->Wl->Prop}(b:Ti)(x:Operand)(f:o.op= .load b x)(g:Nat)(j:a.eval x= nP (nM ⟨g,0,nN⟩))(T:Ti)(cs:List Vl)(c:Ac w g cs T)(d:TypeDesc)(i:P.underlying b=nM d)(e:(match d with| .struct _| .array _ _=>true|_=>false)=true)(hi:(P.info? b).map (·.size)=nM cs.length)(h:K (a.put o.dst (.agg cs.toArray)) w):Oper.wp P o a w K Q:=
 wp_load_row b x f g j T cs.toArray (0,0) d c i e (by simpa using hi) h
def PD(w0 a:Wl)(W:Nat)(i:Vl)(h:List Nat)(p:List (List Bq))(vs:List Vl)(G:Nat->Prop)(l:PV)(n:Nat)(v:Vl)(w:Wl):Prop:=match n with
 |0=>Chg a w []
 |1=>∃d e xs G2 j f,l= .yes d e/\Y3 a w W i h d (e.reverse.map CW.toI) v xs G2 j f/\Chg a w h
 |2=>∃d e xs G2 j f k g,l= .yes d e/\Y3 a w W i h d (e.reverse.map CW.toI) k xs G2 j f/\Chg a w h/\v= nS (nM ⟨g,0,nN⟩) 1 1/\Ac w g [k] 23/\a.heap.size<=g/\g∉W::f
 |3=>∃d e xs G2 j f k g n c,l= .yes d e/\Y3 a w W i h d (e.reverse.map CW.toI) k xs G2 j f/\Chg a w (i.ownBlock.toList++h)/\v= nS (nM ⟨g,0,nN⟩) n c/\AK w v 23 (vs++[k])/\(i.ownBlock=nM g\/a.heap.size<=g)/\g∉W::f/\¬G2 g
 |_=>∃d e j o f q m,l= .yes d e/\PO w0 w W d (p++[e.reverse.map CW.toI]) j o f q m/\Chg a w (i.ownBlock.toList++h)/\(∀b,b∈Dj W o f->b∈i.ownBlock.toList++h\/a.heap.size<=b)/\∀b,m b->G b\/a.heap.size<=b
theorem PD.chg{w0 d:Wl}{W:Nat}{c:Vl}{b:List Nat}{e:List (List Bq)}{vs:List Vl}{G:Nat->Prop}{f:PV}{n:Nat}{v:Vl}{w:Wl}(h:PD w0 d W c b e vs G f n v w):Chg d w (c.ownBlock.toList++b):=by
 match n,h with
 |0,h=>exact Chg.none h _
 |1,⟨_,_,_,_,_,_,_,_,h⟩=>exact h.mono fun k _ a=>Qd _ a
 |2,⟨_,_,_,_,_,_,_,_,_,_,h,_⟩=>exact h.mono fun k _ a=>Qd _ a
 |3,⟨_,_,_,_,_,_,_,_,_,_,_,_,h,_⟩=>exact h
 |_+4,⟨_,_,_,_,_,_,_,_,_,h,_⟩=>exact h
theorem PD.undo{w0 b:Wl}{W:Nat}{a g:Vl}{t:Tr}{bs e:List Nat}{c:List (List Bq)}{vs:List Vl}{G:Nat->Prop}{f:PV}{n:Nat}{v:Vl}{w:Wl}(h:PD w0 b W a e c vs G f n v w)(i:n<=2)(d:Hu b W t g a bs):w.cell? ⟨W,3,nN⟩=nM a:=by
 match n,h with
 |0,h=>exact(d.blk.kept h).cell 3
 |1,⟨_,_,_,_,_,_,_,h,_⟩=>exact h.wat.blk.cell 3
 |2,⟨_,_,_,_,_,_,_,_,_,h,_⟩=>exact h.wat.blk.cell 3
 |_+3,_=>omega
theorem U0:(prog.info? 23).map (fun i=>(i.zero,i.size,i.bytes))=nM (nM (nS nN 0 0),1,24):=Yb
def Tp(W a D m:Nat)(d:Vl)(c:Nat)(b:Vl)(j:Nat)(v:Vl):Prop:=match j with
 |0=>v= nP (nM ⟨W,0,nN⟩)
 |1=>v= nP (nM ⟨W,0,nN⟩)
 |2=>v= nP (nM ⟨W,0,nN⟩)
 |3=>v= nP (nM ⟨W,3,nN⟩)
 |4=>v=d
 |5=>v= nS (nM ⟨D,0,nN⟩) 6 6
 |6=>v= nP (nM ⟨a,0,nN⟩)
 |7=>v= nI nX ((m:Int)+1)
 |8=>v= nI nX m
 |9=>v= nP (nM ⟨D,m,nN⟩)
 |10=>v= .func (.func c) #[nP (nM ⟨W,0,nN⟩)] #[]
 |11=>v=b
 |15=>v= nP (nM ⟨W,0,nN⟩)
 |16=>v= nP (nM ⟨W,3,nN⟩)
 |_=>True
theorem Tx(w0:Wl)(W:Nat)(t:Tr)(g:List (List Bq))(v a:Vl)(bs:List Nat)(vs:List Vl)(G:Nat->Prop)(o:Bq)(sv:Vl)(ys:List Vl)(b f c D:Nat)(w:Wl)(l:Br w)(z:10<=w0.heap.size)(K:w0.heap.size<=w.heap.size)(h:PO w0 w W t g v a bs vs G)(m:T7 o)(p:As w sv 6 o.steps.length ys)(q:Az w o.steps ys)(r:Ac w b (BJ o sv) 42)(A:Ac w f [nP (nM ⟨W,0,nN⟩)] 90)(B:Ac w c [nS (nM ⟨D,0,nN⟩) 6 6] 161)(C:Ac w D (HJ W) 163)(E:b∉Dj W a bs)(F:f∉Dj W a bs)(H:c∉Dj W a bs)(I:D∉Dj W a bs)(J:vs.length<=65536)(i:Bn o≠0):
  Cl prog 78 #[nP (nM ⟨b,0,nN⟩),nP (nM ⟨f,0,nN⟩),nP (nM ⟨c,0,nN⟩)] w (CK w0 W t g a bs G o w):=by
 have d:=hZ (Xu o sv ys w l m p q);rw[Co.no rfl i]at d
 have j:=UD (CK w0 W t g a bs G o w=fun e w'=>e=By (Bn o)/\Chg w w' (Dj W a bs)) (by
  funext e w';unfold CK Gz;rw[Qr i];rfl)
 have y:=hZ r;rw[j.o];obtain⟨n,u⟩:=Ue (Bn o)
 rw[<-u]at d|-;clear l z K h m p q r A B C E F H I J i u j;go_enter func78,ntmps78
 go_wp2_with(first
  |(refine Bp rfl _ _ rfl b ZN 42 (BJ o sv) (by exact y.o) _ underlying42 rfl A0 ?_)
  |(go_at_call 52;refine d.o.mono ?_;rintro e L ⟨s,k⟩;unfold By at s;subst s;have x:=hZ k;clear k))
 exact⟨rfl,rfl,x.o.none _⟩
theorem Rz(w0:Wl)(W:Nat)(t:Tr)(gs:List (List Bq))(v r:Vl)(bs:List Nat)(vs:List Vl)(G:Nat->Prop)(o:Bq)(sv:Vl)(ys:List Vl)(Z WB DB D:Nat)(w:Wl)(hL:Br w)(ax:10<=w0.heap.size)(hz:w0.heap.size<=w.heap.size)(h:PO w0 w W t gs v r bs vs G)(hO:T7 o)(hR:As w sv 6 o.steps.length ys)(hS:Az w o.steps ys)(a2:Ac w Z (BJ o sv) 42)(a3:Ac w WB [nP (nM ⟨W,0,nN⟩)] 90)(a4:Ac w DB [nS (nM ⟨D,0,nN⟩) 6 6] 161)(a5:Ac w D (HJ W) 163)(ba:Z∉Dj W r bs)(bb:WB∉Dj W r bs)(bc:DB∉Dj W r bs)(bd:D∉Dj W r bs)(bB:vs.length<=65536)(ao:Bn o=0):
  Cl prog 78 #[nP (nM ⟨Z,0,nN⟩),nP (nM ⟨WB,0,nN⟩),nP (nM ⟨DB,0,nN⟩)] w (CK w0 W t gs r bs G o w):=by
 have aU:=hZ (Xu o sv ys w hL hO hR hS);have P:CP o.kind=true:=Iu.2 (by have:=(EK ao).1;omega);obtain⟨m,j⟩:∃m:Nat,o.kind=(m:Int)+1:=⟨(o.kind-1).toNat,by have:=(EK ao).1;omega⟩
 have cx:m<6:=by have:=(EK ao).1;omega
 have a9:(o.kind-1).toNat=m:=Zj
 have aA:=hZ ao;have HL:=hZ hL;have av:=hZ a2;have U:=hZ h;have bP:=hZ j;obtain⟨ab,ad,rfl,_⟩:=hR.form;have aQ:=hZ P;have aR:=hZ a9;have aW:=hZ bB;have aN:=hZ ax;have HZ:=hZ hz;have ae:=hZ (And.intro a3 (And.intro a4 a5));have an:=hZ (And.intro ba (And.intro bb (And.intro bc bd)));clear hL ax hz h hO hR hS a2 a3 a4 a5 ba bb bc bd bB ao j P a9;go_enter func78,ntmps78
 go_wp2_with(first
  |(refine Bp rfl _ _ rfl Z ZN 42 (BJ o (nS ab o.steps.length ad)) (by exact av.o) _ underlying42 rfl A0 ?_)
  |(go_at_call 52;refine aU.o.mono ?_;intro e Q aJ;unfold Co at aJ;rw[aA.o,Qs Zh]at aJ;obtain⟨bF,a0,x,bf,r7⟩:=aJ;obtain⟨slp,ai,vx,E,F,F2,rfl,r1,r2,r3,r4,r5,bG,r6⟩:=bf.below;clear bf;obtain⟨pa,pc,bg,_⟩:=r1.tpath.row.cell;have R1:=hZ r1;have R2:=hZ r2;have R3:=hZ r3;have R4:=hZ r4;have R5:=hZ r5;have R6:=hZ bG;have H1:=hZ r6.1;have bS:=hZ (aB (k:=o.kind) (p:=o.path) (f:=o.frm) (sv:= nS ab o.steps.length ad) (slp:=slp) rfl (by rw[bg];rfl) r6.2.1 r6.2.2);have R7:=hZ r7;have aS:=hZ (Ac.new Q [nI nX 0,nG ⟨#[]⟩,nG ⟨#[]⟩,nS nN 0 0,nS nN 0 0,nS nN 0 0,.nilIface] 111);clear r1 r2 r3 r4 r5 bG r6 r7 bg)
  |(refine Ae rfl _ _ _ rfl Q.heap.size [nI nX o.kind,nG o.path,nG o.frm,nS ab o.steps.length ad,slp,ai,vx] ZN ZN 111 _ aS.o Ce rfl bS.o ?_;intro w2 cj aE aH;have aO:=hZ aE;have H2:=UD (Chg w w2 []) (Chg.step (b:=_) (by exact cg H1.o) aH (fun i hi hl=>by have:=H1.o.size;simp at hi;omega));have aM:=UD (Chg Q w2 []) (Chg.step (b:=_) (by exact cg (cR)) aH (fun i hi hl=>by simp at hi;omega));have aX:=UD (Q.heap.size<w2.heap.size) aE.lt;clear cj aE aH))
 go_outline
 obtain⟨C,al⟩:=Ue (World.drew w2)
 have bU:=hZ al;have Y:Hid (Chg w C []):=by rw[al];exact hZ H2.o.drew
 have bL:Hid (Chg Q C []):=by rw[al];exact hZ aM.o.drew
 have B5:Hid (Ac C Q.heap.size [nI nX o.kind,nG o.path,nG o.frm,nS ab o.steps.length ad,slp,ai,vx] 111):=by rw[al];exact hZ aO.o.drew
 have ci:Q.heap.size<C.heap.size:=by rw[al];exact aX.o
 clear al;have bC:=Y.o.size;have ah:=U.o.ltAll;have af:W∈Dj W r bs:=Qd _ Zh;have ag:∀b,b∈bs->b∈Dj W r bs:=fun b d=>Qd _ (Qg _ d)
 have aq:∀b,b<w.heap.size->b∉Dj W r bs->b∉r.ownBlock.toList++W::(E++bs):=fun b hl hn j=>by
  rcases Qf.1 j with j|j
  .exact hn (Qe _ j)
  .rcases Qh.1 j with rfl|j
   .exact hn af
   .rcases Qf.1 j with j|j
    .have:=R2.o.ge b j;omega
    .exact hn (ag b j)
 have B1:=hZ (av.o.kept Y.o);have B2:=hZ (ae.o.1.kept Y.o);have B3:=hZ (ae.o.2.1.kept Y.o);have B4:=hZ (ae.o.2.2.kept Y.o);have bH:=hZ (aq Z av.o.lt an.o.1);have aL:=hZ (aq WB ae.o.1.lt an.o.2.1);have bI:=hZ (aq DB ae.o.2.1.lt an.o.2.2.1);have bJ:=hZ (aq D ae.o.2.2.lt an.o.2.2.2)
 have bK:=UD (Q.heap.size∉r.ownBlock.toList++W::(E++bs)) fun j=>by
  have cA:=H1.o.size
  rcases Qf.1 j with j|j
  .have:=ah _ (Qe _ j);omega
  .rcases Qh.1 j with j|j
   .have:=ah _ af;omega
   .rcases Qf.1 j with j|j
    .have:=R6.o _ j;omega
    .have:=ah _ (ag _ j);omega
 have am:=hZ (U.o.kept Y.o)
 have aC:=UD (∀b,b∈E->w0.heap.size<=b/\¬G b/\r.ownBlock≠nM b) fun b d=>by
  have u:=R2.o.ge b d;have h2:=HZ.o;refine⟨Zj,fun hG=>by have:=(U.o.gnew b hG).2;omega,fun e=>by have:=U.o.row.lt e;omega⟩
 have aV:=UD (∀g,r.ownBlock=nM g->g∉W::(E++bs)) fun g hg j=>by
  rcases Qh.1 j with rfl|j
  .exact(U.o.uown g hg).2.1 Zh
  .rcases Qf.1 j with j|j
   .exact(aC.o g j).2.2 hg
   .exact(U.o.uown g hg).2.1 (Qg _ j)
 have bV:=UD (w0.heap.size<=C.heap.size) (by have:=HZ.o;omega)
 have be:(W::(E++bs)).Nodup:=by
  have hn:=U.o.nodup;simp only[List.nodup_cons,List.nodup_append,Qf,not_or]at hn|-;refine⟨⟨fun j=>by have:=R2.o.ge _ j;have:=ah _ af;omega,hn.1⟩,R2.o.nodup,hn.2,fun x hx y hy e=> ?_⟩;subst e;have:=R2.o.ge _ hx;have:=ah _ (ag _ hy);omega
 have a8:∀b,b∈W::(E++bs)->10<=b:=fun b d=>by
  have u:=aN.o
  rcases Qh.1 d with rfl|d
  .have:=U.o.ge _ (List.mem_cons_self ..);omega
  .rcases Qf.1 d with d|d
   .have:=(aC.o b d).1;omega
   .have:=U.o.ge _ (Qg _ d);omega
 have aF:∀b,b∈W::(E++bs)->¬F b/\¬F2 b:=fun b d=>by
  have bE:b∈Dj W r bs->¬F b/\¬F2 b:=fun j=>by
   have hl:=ah b j;exact⟨fun H=>by have:=R3.o b H;omega,fun H=>by have:=R4.o b H;omega⟩
  rcases Qh.1 d with rfl|d
  .exact bE af
  .rcases Qf.1 d with d|d
   .exact R5.o b d
   .exact bE (ag b d)
 have bh:Da t o bF a0 x=Gz t o:=VL aA.o R1.o.pathP R1.o.frmP R7.o
 have aG:∀R,Chg C R []->∃n:Nat,(HJ W)[(o.kind-1).toNat]? =nM (.func (.func n) #[nP (nM ⟨W,0,nN⟩)] #[])/\
   Cl prog n #[nP (nM ⟨W,0,nN⟩),nA #[nI nX o.kind,nG o.path,nG o.frm,nS ab o.steps.length ad,slp,ai,vx]] R (BC W r (W::(E++bs)) (Gz t o) R):=fun R hx=>by
  rw[<-bh];have b5:=bL.o.trans hx;have b1:=Y.o.trans hx;exact aD W t v r bs o bF a0 x _ slp ai vx E F F2 R (HL.o.kept b1) (am.o.wat.kept hx) (R1.o.kept b5) be a8 (fun b d=>(aF b d).1) (fun b d=>(aF b d).2) aQ.o
 obtain⟨n0,ap,_⟩:=aG C cR;obtain⟨au,aa⟩:=Ue (Gz t o)
 have bN:=UD (∀R,Chg C R []->Cl prog n0 #[nP (nM ⟨W,0,nN⟩),nA #[nI nX o.kind,nG o.path,nG o.frm,nS ab o.steps.length ad,slp,ai,vx]] R (BC W r (W::(E++bs)) au R)) fun R hx=>by
  obtain⟨n,u,h2⟩:=aG R hx;rw[ap]at u
  injection u with u
  injection u with u _ _
  injection u with u
  subst u;rw[aa];exact h2
 rw[aR.o]at ap;have bQ:=hZ ap;have bM:=hZ (UR ap);have aT:=UD (CK w0 W t gs r bs G o w=Y6 w0 W gs r bs G au w) (by unfold CK;rw[<-aa])
 have aP:=UD (∀w',Chg C w' (r.ownBlock.toList++W::(E++bs))->Chg w w' (Dj W r bs)) fun w' h=>(Y.o.none _).step h (fun i hi hl=>by
  rcases Qf.1 hi with hi|hi
  .exact Qe _ hi
  .rcases Qh.1 hi with rfl|hi
   .exact af
   .rcases Qf.1 hi with hi|hi
    .have:=R2.o.ge i hi;omega
    .exact ag i hi)
 have bW:=UD (w.heap.size<=C.heap.size) bC
 have bR:=UD (∀b,(b∈r.ownBlock.toList++W::(E++bs)\/C.heap.size<=b)->b∈Dj W r bs\/w.heap.size<=b) fun b d=>by
  rcases d with d|d
  .rcases Qf.1 d with d|d
   .exact .inl (Qe _ d)
   .rcases Qh.1 d with rfl|d
    .exact .inl af
    .rcases Qf.1 d with d|d
     .exact .inr (R2.o.ge b d)
     .exact .inl (ag b d)
  .exact .inr Zj
 have bT:=UD (PD w0 C W r (W::(E++bs)) gs vs G au 0 undef C) cR;clear aa aG bh aF a8 be aq ah af ag ap bC ci;clear aU aR aQ ae an aO av aS R1 R2 R3 R4 R5 R6 R7 H1 H2 aM aX HL aA aN;refine wp_region_any Yb ?_;change wpAny _ _ _ _ _ _ _ (World.drew _);rw[<-bU.o];refine Dg _ (DC [12,13,14,17] (Tp W Z D m r n0 (nA #[nI nX o.kind,nG o.path,nG o.frm,nS ab o.steps.length ad,slp,ai,vx])) (PD w0 C W r (W::(E++bs)) gs vs G au)) Yb ?_ ?_ _ ?_
 .intro ii op a N dd q H X A ca l K z
  have aj:Chg C N (r.ownBlock.toList++W::(E++bs)):=by
   obtain⟨_,_,_,hp⟩:=l.any;exact hp.chg
  match ii,q with
  |0,q=>
   obtain rfl:=Q5 q;have u:a.tmps.getD 1 undef= nP (nM ⟨WB,0,nN⟩):=H.at 1 Yb;have O:=B2.o.kept aj aL.o;have L:=O.cell 0;simp only[Qa,Qb]at L;go_simp
   exact z _ _ Zh (l.read Zh ZM (by simp[Tp]))
  |1,q=>
   obtain rfl:=Q5 q;have u:a.tmps.getD 1 undef= nP (nM ⟨WB,0,nN⟩):=H.at 1 Yb;have O:=B2.o.kept aj aL.o;have L:=O.cell 0;simp only[Qa,Qb]at L;go_simp
   exact z _ _ Zh (l.read Zh ZM (by simp[Tp]))
  |2,q=>
   obtain rfl:=Q5 q;have h7:a.tmps.getD 7 undef= nP (nM ⟨W,0,nN⟩):=l.vals 1 ZM (A ⟨1,.data⟩ Zh rfl);go_simp
   exact z _ _ Zh (l.read Zh ZM (by simp[Tp]))
  |3,q=>
   obtain rfl:=Q5 q;have h8:a.tmps.getD 8 undef= nP (nM ⟨W,0,nN⟩):=l.vals 2 ZM (A ⟨2,.data⟩ Zh rfl);go_simp
   exact z _ _ Zh (l.read Zh ZM (by simp[Tp]))
  |4,q=>
   obtain rfl:=Q5 q;have h9:a.tmps.getD 9 undef= nP (nM ⟨W,3,nN⟩):=l.vals 3 ZM (A ⟨3,.data⟩ Zh rfl)
   have aw:dd 14=false:=by
    cases e:dd 14 with
    |false=>rfl
    |true=>have:=ca 14 _ rfl e ⟨4,.data⟩ Zh rfl;rw[X]at this;cases this
   obtain⟨m',T,cd,ce⟩:=l.low (n:=2) rfl aw;have L:=ce.undo cd am.o.wat;go_simp
   exact z _ _ Zh (l.read Zh ZM (by simp[Tp]))
  |5,q=>
   obtain rfl:=Q5 q;have h2:a.tmps.getD 2 undef= nP (nM ⟨DB,0,nN⟩):=H.at 2 Yb;have O:=B3.o.kept aj bI.o;have L:=O.cell 0;simp only[Qa,Qb]at L;go_simp
   exact z _ _ Zh (l.read Zh ZM (by simp[Tp]))
  |6,q=>
   obtain rfl:=Q5 q;have h0:a.tmps.getD 0 undef= nP (nM ⟨Z,0,nN⟩):=H.at 0 Yb;go_simp
   exact z _ _ Zh (l.read Zh ZM (by simp[Tp]))
  |7,q=>
   obtain rfl:=Q5 q;have cn:a.tmps.getD 12 undef= nP (nM ⟨Z,0,nN⟩):=l.vals 6 ZM (A ⟨6,.data⟩ Zh rfl);have O:=B1.o.kept aj bH.o;have L:=O.cell 0;unfold BJ at L;simp only[Qa]at L;rw[bP.o]at L;go_simp
   exact z _ _ Zh (l.read Zh ZM (by simp[Tp]))
  |8,q=>
   obtain rfl:=Q5 q;have co:a.tmps.getD 13 undef= nI nX ((m:Int)+1):=l.vals 7 ZM (A ⟨7,.data⟩ Zh rfl);have cz:IntKind.i64.wrap ((m:Int)+1-1)=(m:Int):=by rw[show(m:Int)+1-1=m from by omega];exact IntWalk.i64_in _ Zj
   have cf:IntKind.i64.wrap (m:Int)=(m:Int):=IntWalk.i64_in _ Zj;go_simp
   exact z _ _ Zh (l.read Zh ZM (by simp[Tp,cf]))
  |9,q=>
   obtain rfl:=Q5 q;have cm:a.tmps.getD 11 undef= nS (nM ⟨D,0,nN⟩) 6 6:=l.vals 5 ZM (A ⟨5,.data⟩ Zh rfl);have cp:a.tmps.getD 14 undef= nI nX m:=l.vals 8 ZM (A ⟨8,.data⟩ Zh rfl);have cy:(m:Int)<6:=Zj
   have cw:(0:Int)<=(m:Int):=Zj
   go_simp
   exact z _ _ Zh (l.read Zh ZM (by simp[Tp]))
  |10,q=>
   obtain rfl:=Q5 q;have cq:a.tmps.getD 15 undef= nP (nM ⟨D,m,nN⟩):=l.vals 9 ZM (A ⟨9,.data⟩ Zh rfl);have O:=B4.o.kept aj bJ.o;have L:=O.cell m;rw[bQ.o]at L;go_simp
   exact z _ _ Zh (l.read Zh ZM (by simp[Tp]))
  |11,q=>
   obtain rfl:=Q5 q;have h3:a.tmps.getD 3 undef= nP (nM ⟨Q.heap.size,0,nN⟩):=H.at 3 Yb;have O:=B5.o.kept aj bK.o;rw[Qr (by simp[Region.wanted])];refine Bd _ _ rfl Q.heap.size h3 111 _ O _ underlying111 rfl Ce ?_;exact z _ _ Zh (l.read Zh ZM (by simp[Tp]))
  |12,q=>
   obtain rfl:=Q5 q;have bY:=A ⟨10,.data⟩ Zh rfl;have bZ:=A ⟨11,.data⟩ Zh rfl;have ax:a.tmps.getD 16 undef= .func (.func n0) #[nP (nM ⟨W,0,nN⟩)] #[]:=l.vals 10 ZM bY;have b3:a.tmps.getD 17 undef=(nA #[nI nX o.kind,nG o.path,nG o.frm,nS ab o.steps.length ad,slp,ai,vx]):=l.vals 11 ZM bZ;have ay:Chg C N []:=l.at (n:=0) rfl X (.inl rfl);rw[Qr (by simp[Region.wanted])];refine Ru _ _ _ rfl n0 _ _ ax b3 (bM.o _ _) _ (bN.o N ay) ?_;intro e Q az
   rcases aa:au with k|⟨t',I⟩
   .rw[aa]at az
    obtain⟨he,b7⟩:=az;unfold By at he;subst he;refine .inr ⟨_,rfl, ?_⟩;rw[aT.o,aa];exact⟨H.defers,rfl,aP.o _ (((ay.none _).trans b7).mono fun k _ P=>Qd _ P)⟩
   .rw[aa]at az
    obtain⟨T,S,sl,xs,G2,he,q1,q2,q3,q4,q5⟩:=az;subst he;have ch:=ay.size;refine .inl ⟨_,rfl,z _ _ Zh (l.next (n:=0) rfl X (.inl rfl) ZM ?_)⟩;exact⟨t',I,xs,G2,T,S,aa,⟨⟨q1.row,q1.inn,q1.ops,fun b d=>by have:=q1.new b d;omega⟩,q2,q3.back ch,q5⟩,(ay.none _).trans q4⟩
  |13,q=>
   obtain rfl:=Q5 q;have aY:=A ⟨12,.data⟩ Zh rfl;obtain⟨t',I,xs,G2,T,S,g1,s,J⟩:=l.at (n:=1) rfl X (.inr ⟨12,rfl,aY⟩);change Y3 _ _ _ _ _ _ _ (a.tmps.getD 18 undef) _ _ _ _ at s;obtain⟨sa,sc,ar,_⟩:=s.ops.row.form;rw[show(I.reverse.map CW.toI).length=I.length from by simp]at ar;rw[ar]at s;have b4:a.tmps.getD 18 undef= nS sa I.length sc:=ar;have cr:a.tmps[18]?.getD undef= nS sa I.length sc:=by rw[<-Qp];exact b4
   have bD:=J.size;have cb:=s.wat.blk.lt;have aI:=AP.lt _ _ _ s.wat.at_;go_simp
   refine z _ _ Zh (l.next (n:=1) rfl X (.inr ⟨12,rfl,aY⟩) ZM ?_);have b9:Chg N (N.alloc (nC #[nS sa I.length sc] 23)) []:=(Chg.refl N []).alloc _;refine⟨t',I,xs,G2,T,S,_,N.heap.size,g1,s.kept b9,J.alloc _,rfl,Ac.new N [nS sa I.length sc] _,bD,fun j=> ?_⟩
   rcases Qh.1 j with j|j
   .omega
   .have:=aI _ j;omega
  |14,q=>
   obtain rfl:=Q5 q;have aZ:=A ⟨13,.data⟩ Zh rfl;have d4:=A ⟨4,.data⟩ Zh rfl;obtain⟨t',I,xs,G2,T,S,sl,g,g1,s,J,V,g5,g6,g7⟩:=l.at (n:=2) rfl X (.inr ⟨13,rfl,aZ⟩);change a.tmps.getD 19 undef=_ at V;have b2:a.tmps.getD 10 undef=r:=l.vals 4 ZM d4;have a6:=g5.cell 0;simp only[Qa]at a6;have b6:AK N r 23 vs:=am.o.row.kept J aV.o;obtain⟨sa,sc,ar,_⟩:=s.ops.row.form;refine Df rfl _ _ _ rfl 23 _ 24 underlying96 U0 rfl r vs b2 b6 g sl V a6 (by rw[ar];rfl) (by have:=aW.o;omega) (by have:=aW.o;omega) ?_;intro g' bX w' k1 k2 M;refine z _ _ Zh (l.next (n:=2) rfl X (.inr ⟨13,rfl,aZ⟩) ZM ?_);have bD:=J.size;have cb:=s.wat.blk.lt;have aI:=AP.lt _ _ _ s.wat.at_
   have aK:∀b,b∈r.ownBlock.toList->b<C.heap.size/\b∉W::S/\¬G2 b:=fun b d=>by
    have a1:r.ownBlock=nM b:=by simpa using d
    have cc:=am.o.row.lt a1;refine⟨cc,fun j=> ?_,fun hG=>by have:=(s.ops.new b hG).1;omega⟩
    rcases s.own.come b j with u|u
    .exact aV.o b a1 u
    .omega
   refine⟨t',I,xs,G2,T,S,sl,g',_,bX,g1,s.kept k2 (fun b d=>(aK b d).2),((J.mono fun k _ P=>Qd _ P).trans (k2.mono fun k _ P=>Qe _ P)),rfl,k1, ?_, ?_, ?_⟩
   .rcases M with M|M
    .exact .inl M
    .exact .inr Zj
   .rcases M with M|M
    .exact(aK g' (by simp[M])).2.1
    .intro j
     rcases Qh.1 j with j|j
     .omega
     .have:=aI _ j;omega
   .rcases M with M|M
    .exact(aK g' (by simp[M])).2.2
    .intro j;have:=(s.ops.new _ j).2;omega
  |15,q=>
   obtain rfl:=Q5 q;have h6:a.tmps.getD 6 undef= nP (nM ⟨W,0,nN⟩):=l.vals 0 ZM (A ⟨0,.data⟩ Zh rfl);go_simp
   exact z _ _ Zh (l.read Zh ZM (by simp[Tp]))
  |16,q=>
   obtain rfl:=Q5 q;have ct:a.tmps.getD 21 undef= nP (nM ⟨W,0,nN⟩):=l.vals 15 ZM (A ⟨15,.data⟩ Zh rfl);go_simp
   exact z _ _ Zh (l.read Zh ZM (by simp[Tp]))
  |17,q=>
   obtain rfl:=Q5 q;have aw:=A ⟨14,.data⟩ Zh rfl;have b0:=A ⟨16,.data⟩ Zh rfl;obtain⟨t',I,xs,G2,T,S,sl,g,n,c,g1,s,J,V,g5,g6,g7,g8⟩:=l.at (n:=3) rfl X (.inr ⟨14,rfl,aw⟩);change a.tmps.getD 20 undef=_ at V;change AK _ (a.tmps.getD 20 undef) _ _ at g5;rw[V]at g5;have cs:a.tmps[20]?.getD undef= nS (nM ⟨g,0,nN⟩) n c:=by rw[<-Qp];exact V
   have cu:a.tmps.getD 22 undef= nP (nM ⟨W,3,nN⟩):=l.vals 16 ZM b0;have b8:=s.wat.blk.cell 3;simp only[Qa,Qb]at b8;have cv:=s.wat.blk.frozen 3;go_simp
   refine z undef _ (fun _=>rfl) (l.next (n:=3) rfl X (.inr ⟨14,rfl,aw⟩) ZM ?_);have hs:Chg N (N.setCell ⟨W,3,nN⟩ (nS (nM ⟨g,0,nN⟩) n c)) [W]:=(Chg.refl N _).setCell _ _ Zh;refine⟨t',I,T,_,S,_,_,g1,PO.next am.o aC.o s (fun b d _=>d) J g5 g6 g7 g8 bV.o hs (s.wat.blk.set 3 (nS (nM ⟨g,0,nN⟩) n c)),J.trans (hs.mono fun k _ P=>by simp at P;subst P;simp),fun b d=> ?_,fun b d=>d.imp id fun h=>(s.ops.new b h).1⟩
   rcases Qf.1 d with d|d
   .simp[Vl.ownBlock]at d
    subst d
    rcases g6 with h6|h6
    .exact .inl (Qe _ (by simp[h6]))
    .exact .inr h6
   .rcases s.own.come b d with u|u
    .exact .inl (Qd _ u)
    .exact .inr u
  |_+18,q=>exact absurd q Zh
 .intro a wR dd H hd l
  obtain⟨t',I,T,ck,S,cl,G',g1,s,J,V,g5⟩:=l.fin (n:=3) rfl rfl (hd 17 ZM);have bO:=UD (CK w0 W t gs r bs G o w (nR (nT #[])) wR) (by rw[aT.o,g1];exact⟨rfl,aP.o _ J,T,ck,S,cl,G',s,fun b d=>bR.o b (V b d),fun b d=>(g5 b d).imp id fun h=>Q7 bW.o h⟩);clear l hd g1 s J V g5;have ak:=H.form' [6,7,8,9,10,11,12,13,14,15,16,17,18,19,20,21,22] Yb;have a7:=H.defers;obtain⟨B,df⟩:=a;clear H
  dsimp only at ak a7
  simp only[List.foldl_cons,List.foldl_nil]at ak;obtain⟨u6,bw⟩:=Ue (B.getD 6 undef)
  obtain⟨u7,bx⟩:=Ue (B.getD 7 undef)
  obtain⟨u8,bz⟩:=Ue (B.getD 8 undef)
  obtain⟨u9,bA⟩:=Ue (B.getD 9 undef)
  obtain⟨u10,bi⟩:=Ue (B.getD 10 undef)
  obtain⟨u11,bj⟩:=Ue (B.getD 11 undef)
  obtain⟨u12,bk⟩:=Ue (B.getD 12 undef)
  obtain⟨u13,bl⟩:=Ue (B.getD 13 undef)
  obtain⟨u14,bm⟩:=Ue (B.getD 14 undef)
  obtain⟨u15,bn⟩:=Ue (B.getD 15 undef)
  obtain⟨u16,bo⟩:=Ue (B.getD 16 undef)
  obtain⟨u17,bp⟩:=Ue (B.getD 17 undef)
  obtain⟨u18,bq⟩:=Ue (B.getD 18 undef)
  obtain⟨u19,br⟩:=Ue (B.getD 19 undef)
  obtain⟨u20,bt⟩:=Ue (B.getD 20 undef)
  obtain⟨u21,bu⟩:=Ue (B.getD 21 undef)
  obtain⟨u22,bv⟩:=Ue (B.getD 22 undef)
  rw[<-bw,<-bx,<-bz,<-bA,<-bi,<-bj,<-bk,<-bl,<-bm,<-bn,<-bo,<-bp,<-bq,<-br,<-bt,<-bu,<-bv]at ak;clear bw bx bz bA bi bj bk bl bm bn bo bp bq br bt bu bv
  dsimp only[Act.put]at ak
  simp only[List.setIfInBounds_toArray,List.set_cons_zero,List.set_cons_succ]at ak;subst ak;subst a7;go_wp2_with fail
  go_end0
  exact bO.o
 .exact DC.start bT.o
end
end Go.Proofs.YtkfnkppdhcaeoaaGreatDoor

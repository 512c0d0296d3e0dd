/- Part 36 of the proof of patchJoined_card. -/
import Derived.Test.YtkfnkppdhcaeoaaGreatDoorM35
set_option maxRecDepth 100000
set_option maxHeartbeats 32000000
set_option linter.unusedSimpArgs false
set_option linter.unusedVariables false
set_option linter.unnecessarySimpa false
namespace Go.Proofs.YtkfnkppdhcaeoaaGreatDoor
open Go renaming Calls->Cl,TypeId->Ti,Value->Vl,World->Wl
section
open _root_.Go.Proofs.Tryz
open Go Go.Shelf Go.RowKit Go.Lib Tree Ptr
def Db(k:Int)(p f:BY)(sv:Vl):List Vl:=[.int .i64 k,.string p,.string f,sv,.slice none 0 0,.slice none 0 0,.nilIface]
theorem IK(k:Int)(p f:BY)(a:Option Addr)(n c:Nat):∀u∈Db k p f (.slice a n c),u.oneCell'=true:=by
 intro u b;simp only[Db,Qh,List.not_mem_nil,or_false]at b
 rcases b with rfl|rfl|rfl|rfl|rfl|rfl|rfl<;>rfl
theorem Ce:(prog.info? 111).map (·.size)=some 7:=by kernel_rfl
theorem RH(o:Bq)(a:Option Addr)(n c:Nat)(w:Wl)(A:Br w)(F:o.path.size<=16777216)(D:CP o.kind=true)(E:AD o.path=none):
  Cl prog 52 #[.agg #[.int .i64 o.kind,.string o.path,.string o.frm,.slice a n c]] w (AZ 171 [] w):=by
 have y:Hid (∀d,Cl prog 90 #[.int .i64 o.kind] d fun e w'=>e= .returned (.tuple #[.bool (AO o.kind),.bool (AN o.kind),.bool true])/\Chg d w' []):=hZ fun d=>by
  have:=Jm o.kind d;rwa[D]at this
 have x:Hid (∀d,Chg w d []->Cl prog 58 #[.string o.path] d (IU d)):=hZ fun d W=>by
  have:=D8 o.path d (A.kept W) F;have e:AU o.path d=IU d:=by funext e w';unfold AU;rw[E]
  rwa[e]at this
 obtain⟨k,r⟩:∃k,k=o.kind:=⟨_,rfl⟩
 obtain⟨uf,G⟩:∃k,k=AO o.kind:=⟨_,rfl⟩
 obtain⟨uv,H⟩:∃k,k=AN o.kind:=⟨_,rfl⟩
 rw[<-G,<-H,<-r]at y;obtain⟨p,s⟩:∃k,k=o.path:=⟨_,rfl⟩
 obtain⟨f,C⟩:∃k,k=o.frm:=⟨_,rfl⟩
 rw[<-s]at x;rw[<-r,<-s,<-C];have P:Hid (Ac (((w.alloc (.cells #[.int .i64 k,.string p,.string f,.slice a n c] 42)).alloc (.cells (Db 0 ⟨#[]⟩ ⟨#[]⟩ (.slice none 0 0)).toArray 111)).alloc (.cells (Db 0 ⟨#[]⟩ ⟨#[]⟩ (.slice none 0 0)).toArray 111)) (w.heap.size+1+1) (Db 0 ⟨#[]⟩ ⟨#[]⟩ (.slice none 0 0)) 111):=hZ (by have:=Ac.new ((w.alloc (.cells #[.int .i64 k,.string p,.string f,.slice a n c] 42)).alloc (.cells (Db 0 ⟨#[]⟩ ⟨#[]⟩ (.slice none 0 0)).toArray 111)) (Db 0 ⟨#[]⟩ ⟨#[]⟩ (.slice none 0 0)) 111;simpa using this);have R:Hid (Ac (((w.alloc (.cells #[.int .i64 k,.string p,.string f,.slice a n c] 42)).alloc (.cells (Db 0 ⟨#[]⟩ ⟨#[]⟩ (.slice none 0 0)).toArray 111)).alloc (.cells (Db 0 ⟨#[]⟩ ⟨#[]⟩ (.slice none 0 0)).toArray 111)) w.heap.size (BJ ⟨k,p,f,[]⟩ (.slice a n c)) 42):=hZ (((Ac.new w (BJ ⟨k,p,f,[]⟩ (.slice a n c)) 42).alloc _).alloc _);clear D G H r E A F s C;go_enter func52,ntmps52
 go_wp2_with(first
  |(refine Ae rfl _ _ _ rfl (w.heap.size+1+1) (Db k p f (.slice a n c)) (by rfl) (by rfl) 111 (Db 0 ⟨#[]⟩ ⟨#[]⟩ (.slice none 0 0)) (by exact P.o) Ce rfl (IK _ _ _ _ _ _) ?_;intro w0 I z q;have V:=hZ z;have Z:=hZ I;have S:Hid (Chg w w0 []):=hZ (Chg.step (b:=_) (by exact cg cR) q (fun i hi hl=>by simp at hi;omega));have u:Hid (Ac w0 w.heap.size (BJ ⟨k,p,f,[]⟩ (.slice a n c)) 42):=hZ (Ac.kept (w:=_) (by exact R.o) q (by simp;omega));have K:=u.o.cell 0;unfold BJ at K;simp only[Qa,Qb]at K;clear I z q)
  |(go_at_call 90;refine(y.o _).mono ?_;rintro e X ⟨rfl,g⟩;have v:Hid (Chg w X []):=hZ (ct S.o g);have l:=hZ (u.o.kept g);have Q:=hZ (V.o.kept g);have L:=l.o.cell 1;have M:=l.o.cell 2;have N:=l.o.cell 3;unfold BJ at L M N;simp only[Qa,Qb]at L M N;clear g)
  |(go_at_call_of 53 (Vl.bool true);refine(Bv _ _).mono ?_;rintro e w2 ⟨rfl,rfl⟩)
  |(go_at_call 58;refine(x.o _ (by exact cg v.o)).mono ?_;rintro e J ⟨⟨te,xe,rfl⟩,m⟩;have t:=hZ (Q.o.kept m);have O:=t.o.cell 4;have z4:∀j,J.frozen? ⟨w.heap.size+1+1,j,none⟩=false:=fun j=>t.o.frozen j;unfold Db at O;simp only[Qa,Qb]at O;have T:Hid (Chg w J []):=hZ (ct v.o m);clear m)
  |(go_at_call 53;refine(Bu _ _).mono ?_;rintro e Y ⟨B,h⟩;unfold By at B;subst B;have U:Hid (Chg w Y []):=hZ (Chg.trans (b:=_) (by exact T.o.setCell _ _ (by simp;omega)) h);clear h))
 exact⟨rfl,rfl,U.o⟩
theorem RE(o:Bq)(a:Option Addr)(n c:Nat)(w:Wl)(t:Br w)(M:o.path.size<=16777216)(N:o.frm.size<=16777216)(J:CP o.kind=true)(ts:List BY)(K:AD o.path=some ts)(O:AO o.kind=true)(L:AD o.frm=none):
  Cl prog 52 #[.agg #[.int .i64 o.kind,.string o.path,.string o.frm,.slice a n c]] w (AZ 171 [] w):=by
 have r:Hid (∀d,Cl prog 90 #[.int .i64 o.kind] d fun e w'=>e= .returned (.tuple #[.bool (AO o.kind),.bool (AN o.kind),.bool true])/\Chg d w' []):=hZ fun d=>by
  have:=Jm o.kind d;rwa[J]at this
 have F:Hid (∀d,Chg w d []->Cl prog 58 #[.string o.path] d (FA ts d)):=hZ fun d z=>by
  have:=D8 o.path d (t.kept z) M;have e:AU o.path d=FA ts d:=by funext e w';unfold AU;rw[K]
  rwa[e]at this
 have G:Hid (∀d bs,Chg w d bs->(∀b,b∈bs->10<=b)->Cl prog 58 #[.string o.frm] d (IU d)):=hZ fun d bs z hb=>by
  have:=D8 o.frm d (t.kept z hb) N;have e:AU o.frm d=IU d:=by funext e w';unfold AU;rw[L]
  rwa[e]at this
 obtain⟨k,x⟩:∃k,k=o.kind:=⟨_,rfl⟩
 rw[O]at r;obtain⟨uv,P⟩:∃k,k=AN o.kind:=⟨_,rfl⟩
 rw[<-P,<-x]at r;obtain⟨p,y⟩:∃k,k=o.path:=⟨_,rfl⟩
 obtain⟨f,u⟩:∃k,k=o.frm:=⟨_,rfl⟩
 rw[<-y]at F;rw[<-u]at G;rw[<-x,<-y,<-u];have BN:Hid (Ac (((w.alloc (.cells #[.int .i64 k,.string p,.string f,.slice a n c] 42)).alloc (.cells (Db 0 ⟨#[]⟩ ⟨#[]⟩ (.slice none 0 0)).toArray 111)).alloc (.cells (Db 0 ⟨#[]⟩ ⟨#[]⟩ (.slice none 0 0)).toArray 111)) (w.heap.size+1+1) (Db 0 ⟨#[]⟩ ⟨#[]⟩ (.slice none 0 0)) 111):=hZ (by have:=Ac.new ((w.alloc (.cells #[.int .i64 k,.string p,.string f,.slice a n c] 42)).alloc (.cells (Db 0 ⟨#[]⟩ ⟨#[]⟩ (.slice none 0 0)).toArray 111)) (Db 0 ⟨#[]⟩ ⟨#[]⟩ (.slice none 0 0)) 111;simpa using this);have ad:Hid (Ac (((w.alloc (.cells #[.int .i64 k,.string p,.string f,.slice a n c] 42)).alloc (.cells (Db 0 ⟨#[]⟩ ⟨#[]⟩ (.slice none 0 0)).toArray 111)).alloc (.cells (Db 0 ⟨#[]⟩ ⟨#[]⟩ (.slice none 0 0)).toArray 111)) w.heap.size (BJ ⟨k,p,f,[]⟩ (.slice a n c)) 42):=hZ (((Ac.new w (BJ ⟨k,p,f,[]⟩ (.slice a n c)) 42).alloc _).alloc _);clear J P x K t M N y u O L;go_enter func52,ntmps52
 go_wp2_with(first
  |(refine Ae rfl _ _ _ rfl (w.heap.size+1+1) (Db k p f (.slice a n c)) (by rfl) (by rfl) 111 (Db 0 ⟨#[]⟩ ⟨#[]⟩ (.slice none 0 0)) (by exact BN.o) Ce rfl (IK _ _ _ _ _ _) ?_;intro w0 Q H v;have ae:=hZ H;have af:=hZ Q;have H0:Hid (Chg w w0 []):=hZ (Chg.step (b:=_) (by exact cg cR) v (fun i hi hl=>by simp at hi;omega));have C:Hid (Ac w0 w.heap.size (BJ ⟨k,p,f,[]⟩ (.slice a n c)) 42):=hZ (Ac.kept (w:=_) (by exact ad.o) v (by simp;omega));have T:=C.o.cell 0;unfold BJ at T;simp only[Qa,Qb]at T;clear Q H v)
  |(go_at_call 90;refine(r.o _).mono ?_;rintro e w1 ⟨rfl,m⟩;have D:Hid (Chg w w1 []):=hZ (ct H0.o m);have l:=hZ (C.o.kept m);have aa:=hZ (ae.o.kept m);have U:=l.o.cell 1;have V:=l.o.cell 2;have W:=l.o.cell 3;unfold BJ at U V W;simp only[Qa,Qb]at U V W;clear m)
  |(go_at_call_of 53 (Vl.bool true);refine(Bv _ _).mono ?_;rintro e w2 ⟨rfl,rfl⟩)
  |(go_at_call_of 58 (Vl.string p);refine(F.o _ (by exact cg D.o)).mono ?_;rintro e R ⟨ag,rfl,A,q2,q⟩;have Q1:=hZ A;obtain⟨a1,c1,rfl,_⟩:=A.form;have g:=hZ (aa.o.kept q);have ab:=hZ (l.o.kept q);have Y:=g.o.cell 4;have z4:∀j,R.frozen? ⟨w.heap.size+1+1,j,none⟩=false:=fun j=>g.o.frozen j;have X:=ab.o.cell 2;unfold Db at Y;unfold BJ at X;simp only[Qa,Qb]at Y X;have E:Hid (Chg w R []):=hZ (ct D.o q);have l3:=g.o.lt;clear q A q2)
  |(go_at_call_of 58 (Vl.string f);refine(G.o _ [] (by exact E.o.setCell _ _ (by simp;omega)) (by simp)).mono ?_;rintro e S ⟨⟨te,xe,rfl⟩,s⟩;have B:=hZ (((g.o.set 4 (.slice a1 (Ad ts).length c1))).kept s);have Z:=B.o.cell 5;have z5:∀j,S.frozen? ⟨w.heap.size+1+1,j,none⟩=false:=fun j=>B.o.frozen j;unfold Db at Z;simp only[Qa,Qb,List.set_cons_zero,List.set_cons_succ]at Z;have H5:Hid (Chg w S []):=hZ (Chg.trans (b:=_) (by exact E.o.setCell _ _ (by simp;omega)) s);clear s)
  |(go_at_call_of 53 (Vl.bool false);refine(Bu _ _).mono ?_;rintro e w4 ⟨I,h⟩;unfold By at I;subst I;have H4:Hid (Chg w w4 []):=hZ (Chg.trans (b:=_) (by exact H5.o.setCell _ _ (by simp;omega)) h);clear h))
 exact⟨rfl,rfl,H4.o⟩
theorem Nd{k:Int}(h:AN k=true):AO k=false:=by
 unfold AN at h;unfold AO;simp only[Bool.or_eq_true,decide_eq_true_eq]at h
 rcases h with(h|h)|h<;>subst h<;>rfl
theorem TC(o:Bq)(a:Option Addr)(n c:Nat)(w:Wl)(H:Br w)(Q:o.path.size<=16777216)(N:CP o.kind=true)(ts:List BY)(P:AD o.path=some ts)(z:AN o.kind=true)(ys:List Vl)(I:As w (.slice a n c) 6 o.steps.length ys)(J:Az w o.steps ys)(K:∀s∈o.steps,Di s)(O:o.steps.length<=4294967296)(u:AS o.steps=none):
  Cl prog 52 #[.agg #[.int .i64 o.kind,.string o.path,.string o.frm,.slice a n c]] w (AZ 174 [] w):=by
 have t:Hid (∀d,Cl prog 90 #[.int .i64 o.kind] d fun e w'=>e= .returned (.tuple #[.bool (AO o.kind),.bool (AN o.kind),.bool true])/\Chg d w' []):=hZ fun d=>by
  have:=Jm o.kind d;rwa[N]at this
 have E:Hid (∀d,Chg w d []->Cl prog 58 #[.string o.path] d (FA ts d)):=hZ fun d q=>by
  have:=D8 o.path d (H.kept q) Q;have e:AU o.path d=FA ts d:=by funext e w';unfold AU;rw[P]
  rwa[e]at this
 have HB:Hid (∀d,Chg w d []->Cl prog 28 #[.slice a n c] d (fun e w'=>(∃(ti:Ti) (Z:Vl),e= .returned (.tuple #[.pointer none,.iface ti Z]))/\Chg d w' [])):=hZ fun d q=>by
  have:=Fk o.steps _ ys d (I.kept q) (J.kept q) K O;refine this.mono fun e w' h=> ?_
  unfold BO at h;unfold AS at u;rw[u]at h;exact h
 have R:=Nd z;obtain⟨k,x⟩:∃k,k=o.kind:=⟨_,rfl⟩
 rw[R,z]at t;rw[<-x]at t;obtain⟨p,y⟩:∃k,k=o.path:=⟨_,rfl⟩
 obtain⟨f,M⟩:∃k,k=o.frm:=⟨_,rfl⟩
 rw[<-y]at E;rw[<-x,<-y,<-M];have BN:Hid (Ac (((w.alloc (.cells #[.int .i64 k,.string p,.string f,.slice a n c] 42)).alloc (.cells (Db 0 ⟨#[]⟩ ⟨#[]⟩ (.slice none 0 0)).toArray 111)).alloc (.cells (Db 0 ⟨#[]⟩ ⟨#[]⟩ (.slice none 0 0)).toArray 111)) (w.heap.size+1+1) (Db 0 ⟨#[]⟩ ⟨#[]⟩ (.slice none 0 0)) 111):=hZ (by have:=Ac.new ((w.alloc (.cells #[.int .i64 k,.string p,.string f,.slice a n c] 42)).alloc (.cells (Db 0 ⟨#[]⟩ ⟨#[]⟩ (.slice none 0 0)).toArray 111)) (Db 0 ⟨#[]⟩ ⟨#[]⟩ (.slice none 0 0)) 111;simpa using this);have ad:Hid (Ac (((w.alloc (.cells #[.int .i64 k,.string p,.string f,.slice a n c] 42)).alloc (.cells (Db 0 ⟨#[]⟩ ⟨#[]⟩ (.slice none 0 0)).toArray 111)).alloc (.cells (Db 0 ⟨#[]⟩ ⟨#[]⟩ (.slice none 0 0)).toArray 111)) w.heap.size (BJ ⟨k,p,f,[]⟩ (.slice a n c)) 42):=hZ (((Ac.new w (BJ ⟨k,p,f,[]⟩ (.slice a n c)) 42).alloc _).alloc _);clear N x P H Q y M R z I J K O u;go_enter func52,ntmps52
 go_wp2_with(first
  |(refine Ae rfl _ _ _ rfl (w.heap.size+1+1) (Db k p f (.slice a n c)) (by rfl) (by rfl) 111 (Db 0 ⟨#[]⟩ ⟨#[]⟩ (.slice none 0 0)) (by exact BN.o) Ce rfl (IK _ _ _ _ _ _) ?_;intro w0 S G v;have ae:=hZ G;have af:=hZ S;have H0:Hid (Chg w w0 []):=hZ (Chg.step (b:=_) (by exact cg cR) v (fun i hi hl=>by simp at hi;omega));have B:Hid (Ac w0 w.heap.size (BJ ⟨k,p,f,[]⟩ (.slice a n c)) 42):=hZ (Ac.kept (w:=_) (by exact ad.o) v (by simp;omega));have U:=B.o.cell 0;unfold BJ at U;simp only[Qa,Qb]at U;clear S G v)
  |(go_at_call 90;refine(t.o _).mono ?_;rintro e w1 ⟨rfl,l⟩;have C:Hid (Chg w w1 []):=hZ (ct H0.o l);have g:=hZ (B.o.kept l);have aa:=hZ (ae.o.kept l);have V:=g.o.cell 1;have W:=g.o.cell 2;have X:=g.o.cell 3;unfold BJ at V W X;simp only[Qa,Qb]at V W X;clear l)
  |(go_at_call_of 53 (Vl.bool true);refine(Bv _ _).mono ?_;rintro e w2 ⟨rfl,rfl⟩)
  |(go_at_call_of 58 (Vl.string p);refine(E.o _ (by exact cg C.o)).mono ?_;rintro e T ⟨ag,rfl,A,q2,m⟩;have Q1:=hZ A;obtain⟨a1,c1,rfl,_⟩:=A.form;have r:=hZ (aa.o.kept m);have ab:=hZ (g.o.kept m);have y4:=r.o.cell 4;have z4:∀j,T.frozen? ⟨w.heap.size+1+1,j,none⟩=false:=fun j=>r.o.frozen j;have Y:=ab.o.cell 3;unfold Db at y4;unfold BJ at Y;simp only[Qa,Qb]at y4 Y;have D:Hid (Chg w T []):=hZ (ct C.o m);have l3:=r.o.lt;clear m A q2)
  |(go_at_call 28;refine(HB.o _ (by exact D.o.setCell _ _ (by simp;omega))).mono ?_;rintro e w5 ⟨⟨te,Z,rfl⟩,F⟩;have H5:Hid (Chg w w5 []):=hZ (Chg.trans (b:=_) (by exact D.o.setCell _ _ (by simp;omega)) F);clear F)
  |(go_at_call_of 53 (Vl.bool false);refine(Bu _ _).mono ?_;rintro e w4 ⟨L,h⟩;unfold By at L;subst L;have H4:Hid (Chg w w4 []):=hZ (Chg.trans (b:=_) (by exact H5.o) h);clear h))
 exact⟨rfl,rfl,H4.o⟩
def I8(o:Bq)(h g:List BY)(x:Tr)(sv:Vl)(w:Wl)(e:Ending)(w':Wl):Prop:=
 ∃slp d f c F a,e= .returned (.agg #[.int .i64 o.kind,.string o.path,.string o.frm,sv,slp,d,f])/\UH w' o h g x slp d f c F a/\BP w c/\(∀b,F b->w.heap.size<=b)/\(∀b,a b->w.heap.size<=b)/\(∀b,b∈c->¬F b/\¬a b)/\Chg w w' []/\(d.oneCell'=true/\f.oneCell'=true)
theorem LL{i w':Wl}{d:Vl}{ts:List BY}{s:BY}(h:AK i d 9 (Ad ts))(g:AD s=some ts)(l:s.size<=16777216)(f:Chg i w' []):JC w' (fun b=>d.ownBlock=some b) d ts:=
 ⟨(h.kept f).rowAt (fun _ e=>e),fun b k=>Q6 (h.lt k) f.size,PK g (by omega),fun t m=>Q7 (Lf g t m) l,fun a n c e=>by
  obtain⟨o,p,j,_⟩:=h.form;rw[j]at e h;have v:=h.capLe.2
  injection e with q r u
  omega⟩
theorem RG(o:Bq)(a:Option Addr)(n c:Nat)(w:Wl)(T:Br w)(H:o.path.size<=16777216)(W:o.frm.size<=16777216)(V:CP o.kind=true)(ts:List BY)(x:AD o.path=some ts)(I:AO o.kind=false)(J:AN o.kind=false):
  Cl prog 52 #[.agg #[.int .i64 o.kind,.string o.path,.string o.frm,.slice a n c]] w (I8 o ts [] .null (.slice a n c) w):=by
 have C:Hid (∀d,Cl prog 90 #[.int .i64 o.kind] d fun e w'=>e= .returned (.tuple #[.bool (AO o.kind),.bool (AN o.kind),.bool true])/\Chg d w' []):=hZ fun d=>by
  have:=Jm o.kind d;rwa[V]at this
 have P:Hid (∀d,Chg w d []->Cl prog 58 #[.string o.path] d (FA ts d)):=hZ fun d hx=>by
  have:=D8 o.path d (T.kept hx) H;have e:AU o.path d=FA ts d:=by funext e w';unfold AU;rw[x]
  rwa[e]at this
 have HT:Hid (∀(z:Vl) (q w':Wl),AK q z 9 (Ad ts)->Chg q w' []->JC w' (fun b=>z.ownBlock=some b) z ts):=hZ fun z q w' l h2=>LL l x H h2
 have am:=hZ x;have Q:=hZ I;have ao:=hZ J;have an:=hZ W;obtain⟨k,v⟩:∃k,k=o.kind:=⟨_,rfl⟩
 rw[I,J]at C;rw[<-v]at C;obtain⟨p,y⟩:∃k,k=o.path:=⟨_,rfl⟩
 obtain⟨f,D⟩:∃k,k=o.frm:=⟨_,rfl⟩
 rw[<-y]at P;have ak:=hZ v;have al:=hZ y;have aj:=hZ D;rw[<-v,<-y,<-D];have BN:Hid (Ac (((w.alloc (.cells #[.int .i64 k,.string p,.string f,.slice a n c] 42)).alloc (.cells (Db 0 ⟨#[]⟩ ⟨#[]⟩ (.slice none 0 0)).toArray 111)).alloc (.cells (Db 0 ⟨#[]⟩ ⟨#[]⟩ (.slice none 0 0)).toArray 111)) (w.heap.size+1+1) (Db 0 ⟨#[]⟩ ⟨#[]⟩ (.slice none 0 0)) 111):=hZ (by have:=Ac.new ((w.alloc (.cells #[.int .i64 k,.string p,.string f,.slice a n c] 42)).alloc (.cells (Db 0 ⟨#[]⟩ ⟨#[]⟩ (.slice none 0 0)).toArray 111)) (Db 0 ⟨#[]⟩ ⟨#[]⟩ (.slice none 0 0)) 111;simpa using this);have ae:Hid (Ac (((w.alloc (.cells #[.int .i64 k,.string p,.string f,.slice a n c] 42)).alloc (.cells (Db 0 ⟨#[]⟩ ⟨#[]⟩ (.slice none 0 0)).toArray 111)).alloc (.cells (Db 0 ⟨#[]⟩ ⟨#[]⟩ (.slice none 0 0)).toArray 111)) (w.heap.size+1) (Db 0 ⟨#[]⟩ ⟨#[]⟩ (.slice none 0 0)) 111):=hZ ((CH w _ _ _).alloc _);have ag:Hid (Ac (((w.alloc (.cells #[.int .i64 k,.string p,.string f,.slice a n c] 42)).alloc (.cells (Db 0 ⟨#[]⟩ ⟨#[]⟩ (.slice none 0 0)).toArray 111)).alloc (.cells (Db 0 ⟨#[]⟩ ⟨#[]⟩ (.slice none 0 0)).toArray 111)) w.heap.size (BJ ⟨k,p,f,[]⟩ (.slice a n c)) 42):=hZ (((Ac.new w (BJ ⟨k,p,f,[]⟩ (.slice a n c)) 42).alloc _).alloc _);clear V v x T H W y D I J;go_enter func52,ntmps52
 go_wp2_with(first
  |(refine Ae rfl _ _ _ rfl (w.heap.size+1+1) (Db k p f (.slice a n c)) (by rfl) (by rfl) 111 (Db 0 ⟨#[]⟩ ⟨#[]⟩ (.slice none 0 0)) (by exact BN.o) Ce rfl (IK _ _ _ _ _ _) ?_;intro w0 X R u;have ah:=hZ R;have au:=hZ X;have H0:Hid (Chg w w0 []):=hZ (Chg.step (b:=_) (by exact cg cR) u (fun i hi hl=>by simp at hi;omega));have M:Hid (Ac w0 w.heap.size (BJ ⟨k,p,f,[]⟩ (.slice a n c)) 42):=hZ (Ac.kept (w:=_) (by exact ag.o) u (by simp;omega));have aa:Hid (Ac w0 (w.heap.size+1) (Db 0 ⟨#[]⟩ ⟨#[]⟩ (.slice none 0 0)) 111):=hZ (Ac.kept (w:=_) (by exact ae.o) u (by simp));have x0:=M.o.cell 0;unfold BJ at x0;simp only[Qa,Qb]at x0;clear X R u)
  |(go_at_call 90;refine(C.o _).mono ?_;rintro e Z ⟨rfl,l⟩;have B:Hid (Chg w Z []):=hZ (ct H0.o l);have t:=hZ (M.o.kept l);have L:=hZ (ah.o.kept l);have ab:=hZ (aa.o.kept l);have x1:=t.o.cell 1;have x2:=t.o.cell 2;have x3:=t.o.cell 3;unfold BJ at x1 x2 x3;simp only[Qa,Qb]at x1 x2 x3;clear l)
  |(go_at_call_of 53 (Vl.bool true);refine(Bv _ _).mono ?_;rintro e w2 ⟨rfl,rfl⟩)
  |(go_at_call_of 58 (Vl.string p);refine(P.o _ (by exact cg B.o)).mono ?_;rintro e q ⟨ay,rfl,K,Y,r⟩;have Q1:=hZ K;obtain⟨h,c1,rfl,_⟩:=K.form;have s:=hZ (L.o.kept r);have af:=hZ (t.o.kept r);have ad:=hZ (ab.o.kept r);have y4:=s.o.cell 4;have z4:∀j,q.frozen? ⟨w.heap.size+1+1,j,none⟩=false:=fun j=>s.o.frozen j;have x5:=af.o.cell 2;unfold Db at y4;unfold BJ at x5;simp only[Qa,Qb]at y4 x5;have N:Hid (Chg w q []):=hZ (ct B.o r);have l3:=s.o.lt;have Q2:=hZ Y;have ar:=hZ r;clear r K Y)
  |(refine Bp rfl _ _ rfl (w.heap.size+1+1) (by rfl) 111 [.int .i64 k,.string p,.string f,.slice a n c,.slice h (Ad ts).length c1,.slice none 0 0,.nilIface] (by exact s.o.set 4 (.slice h (Ad ts).length c1)) _ underlying111 rfl Ce ?_)
  |(refine Ae rfl _ _ _ rfl (w.heap.size+1) [.int .i64 k,.string p,.string f,.slice a n c,.slice h (Ad ts).length c1,.slice none 0 0,.nilIface] (by rfl) (by rfl) 111 (Db 0 ⟨#[]⟩ ⟨#[]⟩ (.slice none 0 0)) (by exact ad.o.set_other _ _ (by simp)) Ce rfl (by simp[Vl.oneCell']) ?_;intro A aq S U;have ai:=hZ S;have O:=hZ U;clear aq S U))
 have ax:=N.o.size;have av:=L.o.lt;have F:∀b,(Vl.slice h (Ad ts).length c1).ownBlock=some b->Z.heap.size<=b:=fun b m=>Q2.o.ge b (by rw[m];simp)
 have aw:=B.o.size;have ap:AK A (.slice h (Ad ts).length c1) 9 (Ad ts):=(Q1.o.kept ((Chg.refl q [w.heap.size+1+1]).setCell ⟨w.heap.size+1+1,4,none⟩ (.slice h (Ad ts).length c1) (by simp)) (fun g E G=>by have:=F g E;simp at G;omega)).kept O.o (fun g E G=>by have:=F g E;simp at G;omega);refine bodyPost_ret (Bi rfl _ _ (w.heap.size+1) 111 [.int .i64 k,.string p,.string f,.slice a n c,.slice h (Ad ts).length c1,.slice none 0 0,.nilIface] _ rfl ai.o underlying111 rfl Ce) rfl ?_;have e1:=ak.o;have e2:=al.o;have e3:=aj.o;subst e1 e2 e3;have hC:Chg w A []:=Chg.step (b:=_) (by exact N.o.setCell _ _ (by simp;omega)) O.o (fun i hi hl=>by simp at hi;omega);refine⟨_,_,_,[],(fun b=>(Vl.slice h (Ad ts).length c1).ownBlock=some b),(fun _=>False),rfl,⟨?_,(fun e=>by rw[Q.o]at e;cases e),(fun e=>by rw[ao.o]at e;cases e),am.o,(fun e=>by rw[Q.o]at e;cases e),an.o⟩,BP.nil _,(fun b m=> ?_),(fun b m=>m.elim),(fun b m=>by cases m),hC,rfl,rfl⟩
 .exact HT.o _ A A ap cR
 .have:=F b m;omega
theorem TB(o:Bq)(a:Option Addr)(n c:Nat)(w:Wl)(U:Br w)(W:o.path.size<=16777216)(O:o.frm.size<=16777216)(hk:CP o.kind=true)(ts:List BY)(L:AD o.path=some ts)(h:List BY)(M:AD o.frm=some h)(X:AO o.kind=true)(Y:AN o.kind=false):
  Cl prog 52 #[.agg #[.int .i64 o.kind,.string o.path,.string o.frm,.slice a n c]] w (I8 o ts h .null (.slice a n c) w):=by
 have S:Hid (∀d,Cl prog 90 #[.int .i64 o.kind] d fun e w'=>e= .returned (.tuple #[.bool (AO o.kind),.bool (AN o.kind),.bool true])/\Chg d w' []):=hZ fun d=>by
  have:=Jm o.kind d;rwa[hk]at this
 have HP:Hid (∀d,Chg w d []->Cl prog 58 #[.string o.path] d (FA ts d)):=hZ fun d Z=>by
  have:=D8 o.path d (U.kept Z) W;have e:AU o.path d=FA ts d:=by funext e w';unfold AU;rw[L]
  rwa[e]at this
 have HT:Hid (∀(x:Vl) (l w':Wl),AK l x 9 (Ad ts)->Chg l w' []->JC w' (fun b=>x.ownBlock=some b) x ts):=hZ fun x l w' t T=>LL t L W T
 have ad:Hid (∀d bs,Chg w d bs->(∀b,b∈bs->10<=b)->Cl prog 58 #[.string o.frm] d (FA h d)):=hZ fun d bs Z m=>by
  have:=D8 o.frm d (U.kept Z m) O;have e:AU o.frm d=FA h d:=by funext e w';unfold AU;rw[M]
  rwa[e]at this
 have aB:Hid (∀(x:Vl) (l w':Wl),AK l x 9 (Ad h)->Chg l w' []->JC w' (fun b=>x.ownBlock=some b) x h):=hZ fun x l w' t T=>LL t M O T
 have az:=hZ M;have ay:=hZ L;have aH:=hZ X;have aC:=hZ Y;have aA:=hZ O;obtain⟨k,K⟩:∃k,k=o.kind:=⟨_,rfl⟩
 rw[X,Y]at S;rw[<-K]at S;obtain⟨p,N⟩:∃k,k=o.path:=⟨_,rfl⟩
 obtain⟨f,H⟩:∃k,k=o.frm:=⟨_,rfl⟩
 rw[<-N]at HP;rw[<-H]at ad;have aw:=hZ K;have ax:=hZ N;have av:=hZ H;rw[<-K,<-N,<-H];have BN:Hid (Ac (((w.alloc (.cells #[.int .i64 k,.string p,.string f,.slice a n c] 42)).alloc (.cells (Db 0 ⟨#[]⟩ ⟨#[]⟩ (.slice none 0 0)).toArray 111)).alloc (.cells (Db 0 ⟨#[]⟩ ⟨#[]⟩ (.slice none 0 0)).toArray 111)) (w.heap.size+1+1) (Db 0 ⟨#[]⟩ ⟨#[]⟩ (.slice none 0 0)) 111):=hZ (by have:=Ac.new ((w.alloc (.cells #[.int .i64 k,.string p,.string f,.slice a n c] 42)).alloc (.cells (Db 0 ⟨#[]⟩ ⟨#[]⟩ (.slice none 0 0)).toArray 111)) (Db 0 ⟨#[]⟩ ⟨#[]⟩ (.slice none 0 0)) 111;simpa using this);have am:Hid (Ac (((w.alloc (.cells #[.int .i64 k,.string p,.string f,.slice a n c] 42)).alloc (.cells (Db 0 ⟨#[]⟩ ⟨#[]⟩ (.slice none 0 0)).toArray 111)).alloc (.cells (Db 0 ⟨#[]⟩ ⟨#[]⟩ (.slice none 0 0)).toArray 111)) (w.heap.size+1) (Db 0 ⟨#[]⟩ ⟨#[]⟩ (.slice none 0 0)) 111):=hZ ((CH w _ _ _).alloc _);have ao:Hid (Ac (((w.alloc (.cells #[.int .i64 k,.string p,.string f,.slice a n c] 42)).alloc (.cells (Db 0 ⟨#[]⟩ ⟨#[]⟩ (.slice none 0 0)).toArray 111)).alloc (.cells (Db 0 ⟨#[]⟩ ⟨#[]⟩ (.slice none 0 0)).toArray 111)) w.heap.size (BJ ⟨k,p,f,[]⟩ (.slice a n c)) 42):=hZ (((Ac.new w (BJ ⟨k,p,f,[]⟩ (.slice a n c)) 42).alloc _).alloc _);clear hk K L M U W O N H X Y;go_enter func52,ntmps52
 go_wp2_with(first
  |(refine Ae rfl _ _ _ rfl (w.heap.size+1+1) (Db k p f (.slice a n c)) (by rfl) (by rfl) 111 (Db 0 ⟨#[]⟩ ⟨#[]⟩ (.slice none 0 0)) (by exact BN.o) Ce rfl (IK _ _ _ _ _ _) ?_;intro w0 ah ae I;have ar:=hZ ae;have aI:=hZ ah;have H0:Hid (Chg w w0 []):=hZ (Chg.step (b:=_) (by exact cg cR) I (fun i hi hl=>by simp at hi;omega));have ab:Hid (Ac w0 w.heap.size (BJ ⟨k,p,f,[]⟩ (.slice a n c)) 42):=hZ (Ac.kept (w:=_) (by exact ao.o) I (by simp;omega));have ai:Hid (Ac w0 (w.heap.size+1) (Db 0 ⟨#[]⟩ ⟨#[]⟩ (.slice none 0 0)) 111):=hZ (Ac.kept (w:=_) (by exact am.o) I (by simp));have x0:=ab.o.cell 0;unfold BJ at x0;simp only[Qa,Qb]at x0;clear ah ae I)
  |(go_at_call 90;refine(S.o _).mono ?_;rintro e w1 ⟨rfl,t⟩;have P:Hid (Chg w w1 []):=hZ (ct H0.o t);have G:=hZ (ab.o.kept t);have aa:=hZ (ar.o.kept t);have aj:=hZ (ai.o.kept t);have x1:=G.o.cell 1;have x2:=G.o.cell 2;have x3:=G.o.cell 3;unfold BJ at x1 x2 x3;simp only[Qa,Qb]at x1 x2 x3;clear t)
  |(go_at_call_of 53 (Vl.bool true);refine(Bv _ _).mono ?_;rintro e w2 ⟨rfl,rfl⟩)
  |(go_at_call_of 58 (Vl.string p);refine(HP.o _ (by exact cg P.o)).mono ?_;rintro e l ⟨aN,rfl,y,C,A⟩;have Q1:=hZ y;obtain⟨q,c1,rfl,_⟩:=y.form;have E:=hZ (aa.o.kept A);have an:=hZ (G.o.kept A);have ak:=hZ (aj.o.kept A);have y4:=E.o.cell 4;have z4:∀j,l.frozen? ⟨w.heap.size+1+1,j,none⟩=false:=fun j=>E.o.frozen j;have x5:=an.o.cell 2;unfold Db at y4;unfold BJ at x5;simp only[Qa,Qb]at y4 x5;have Q:Hid (Chg w l []):=hZ (ct P.o A);have l3:=E.o.lt;have Q2:=hZ C;have ap:=hZ A;clear A y C)
  |(go_at_call_of 58 (Vl.string f);refine(ad.o _ [] (by exact Q.o.setCell _ _ (by simp;omega)) (by simp)).mono ?_;rintro e D ⟨aO,rfl,y,C,B⟩;have P1:=hZ y;obtain⟨r,s,rfl,_⟩:=y.form;have P2:=hZ C;have aq:=hZ B;have F:=hZ (((E.o.set 4 (.slice q (Ad ts).length c1))).kept B);have al:=hZ ((ak.o.set_other ⟨w.heap.size+1+1,4,none⟩ (.slice q (Ad ts).length c1) (by simp)).kept B);have y5:=F.o.cell 5;have z5:∀j,D.frozen? ⟨w.heap.size+1+1,j,none⟩=false:=fun j=>F.o.frozen j;have l5:=F.o.lt;unfold Db at y5;simp only[Qa,Qb,List.set_cons_zero,List.set_cons_succ]at y5;have H5:Hid (Chg w D []):=hZ (Chg.trans (b:=_) (by exact Q.o.setCell _ _ (by simp;omega)) B);clear B y C)
  |(refine Bp rfl _ _ rfl (w.heap.size+1+1) (by rfl) 111 [.int .i64 k,.string p,.string f,.slice a n c,.slice q (Ad ts).length c1,.slice r (Ad h).length s,.nilIface] (by exact F.o.set 5 (.slice r (Ad h).length s)) _ underlying111 rfl Ce ?_)
  |(refine Ae rfl _ _ _ rfl (w.heap.size+1) [.int .i64 k,.string p,.string f,.slice a n c,.slice q (Ad ts).length c1,.slice r (Ad h).length s,.nilIface] (by rfl) (by rfl) 111 (Db 0 ⟨#[]⟩ ⟨#[]⟩ (.slice none 0 0)) (by exact al.o.set_other _ _ (by simp)) Ce rfl (by simp[Vl.oneCell']) ?_;intro z aG af ag;have au:=hZ af;have R:=hZ ag;clear aG af ag))
 have aL:=Q.o.size;have aJ:=aa.o.lt;have J:∀b,(Vl.slice q (Ad ts).length c1).ownBlock=some b->w1.heap.size<=b:=fun b m=>Q2.o.ge b (by rw[m];simp)
 have aK:=P.o.size;have aM:=ap.o.size;have V:∀b,(Vl.slice r (Ad h).length s).ownBlock=some b->l.heap.size<=b:=fun b m=>by have:=P2.o.ge b (by rw[m];simp);simpa using this
 have aD:AK D (.slice q (Ad ts).length c1) 9 (Ad ts):=(Q1.o.kept ((Chg.refl l [w.heap.size+1+1]).setCell ⟨w.heap.size+1+1,4,none⟩ (.slice q (Ad ts).length c1) (by simp)) (fun g u v=>by have:=J g u;simp at v;omega)).kept aq.o;have aE:AK z (.slice q (Ad ts).length c1) 9 (Ad ts):=(aD.kept ((Chg.refl D [w.heap.size+1+1]).setCell ⟨w.heap.size+1+1,5,none⟩ (.slice r (Ad h).length s) (by simp)) (fun g u v=>by have:=J g u;simp at v;omega)).kept R.o (fun g u v=>by have:=J g u;simp at v;omega);have aF:AK z (.slice r (Ad h).length s) 9 (Ad h):=(P1.o.kept ((Chg.refl D [w.heap.size+1+1]).setCell ⟨w.heap.size+1+1,5,none⟩ (.slice r (Ad h).length s) (by simp)) (fun g u v=>by have:=V g u;simp at v;omega)).kept R.o (fun g u v=>by have:=V g u;simp at v;omega);refine bodyPost_ret (Bi rfl _ _ (w.heap.size+1) 111 [.int .i64 k,.string p,.string f,.slice a n c,.slice q (Ad ts).length c1,.slice r (Ad h).length s,.nilIface] _ rfl au.o underlying111 rfl Ce) rfl ?_;have e1:=aw.o;have e2:=ax.o;have e3:=av.o;subst e1 e2 e3;have hC:Chg w z []:=Chg.step (b:=_) (by exact H5.o.setCell _ _ (by simp;omega)) R.o (fun i hi hl=>by simp at hi;omega);refine⟨_,_,_,[],(fun b=>(Vl.slice q (Ad ts).length c1).ownBlock=some b),(fun b=>(Vl.slice r (Ad h).length s).ownBlock=some b),rfl,⟨?_,(fun _=>aB.o _ z z aF cR),(fun e=>by rw[aC.o]at e;cases e),ay.o,(fun _=>az.o),aA.o⟩,BP.nil _,(fun b m=> ?_),(fun b m=> ?_),(fun b m=>by cases m),hC,rfl,rfl⟩
 .exact HT.o _ z z aE cR
 .have:=J b m;omega
 .have:=V b m;omega
theorem Xv(o:Bq)(a:Option Addr)(n c:Nat)(w:Wl)(hL:Br w)(hs:o.path.size<=16777216)(ap:o.frm.size<=16777216)(hk:CP o.kind=true)(ts:List BY)(S:AD o.path=some ts)(x:Tr)(U:AN o.kind=true)(ys:List Vl)(hR:As w (.slice a n c) 6 o.steps.length ys)(hS:Az w o.steps ys)(l:∀s∈o.steps,Di s)(ao:o.steps.length<=4294967296)(N:AS o.steps=some x):
  Cl prog 52 #[.agg #[.int .i64 o.kind,.string o.path,.string o.frm,.slice a n c]] w (I8 o ts [] x (.slice a n c) w):=by
 have HU:Hid (∀d,Cl prog 90 #[.int .i64 o.kind] d fun e w'=>e= .returned (.tuple #[.bool (AO o.kind),.bool (AN o.kind),.bool true])/\Chg d w' []):=hZ fun d=>by
  have:=Jm o.kind d;rwa[hk]at this
 have HP:Hid (∀d,Chg w d []->Cl prog 58 #[.string o.path] d (FA ts d)):=hZ fun d V=>by
  have:=D8 o.path d (hL.kept V) hs;have e:AU o.path d=FA ts d:=by funext e w';unfold AU;rw[S]
  rwa[e]at this
 have HT:Hid (∀(W:Vl) (z w':Wl),AK z W 9 (Ad ts)->Chg z w' []->JC w' (fun b=>W.ownBlock=some b) W ts):=hZ fun W z w' m C=>LL m S hs C
 have ad:=FD l N;have aG:=hZ ad;have ae:=(Ar ad.fits).1
 have HB:Hid (∀d,Chg w d []->Cl prog 28 #[.slice a n c] d (fun e w'=>∃(r:Nat->Prop) (y:Nat),e= .returned (.tuple #[.pointer (some ⟨y,0,none⟩),.nilIface])/\CG w' r y x/\(∀b,r b->b<w'.heap.size)/\Chg d w' [])):=hZ fun d V=>by
  have:=Fk o.steps _ ys d (hR.kept V) (hS.kept V) l ao;refine this.mono fun e w' h=> ?_
  unfold BO at h;unfold AS at N;rw[N]at h;obtain⟨⟨r,y,m,C,B,_⟩,h4⟩:=h;exact⟨r,y,m,C,B,h4⟩
 have aM:Hid (∀r y d,CG d r y x->(∀b,r b->b<d.heap.size)->Cl prog 68 #[.pointer (some ⟨y,0,none⟩)] d (Ht x d)):=hZ fun r y d m C=>M9 x r y d m C ae
 have aI:Hid (∀D v d,Hm d D x v->(∀b,D b->b<d.heap.size)->Cl prog 76 #[v] d (SF x d)):=hZ fun D v d m C=>ab _ x D v d (Q8 _) ae m C
 have af:=Nd U;have aK:=hZ S;have ak:=hZ af;have aT:=hZ U;have aL:=hZ ap;obtain⟨k,R⟩:∃k,k=o.kind:=⟨_,rfl⟩
 rw[af,U]at HU;rw[<-R]at HU;obtain⟨p,T⟩:∃k,k=o.path:=⟨_,rfl⟩
 obtain⟨f,aa⟩:∃k,k=o.frm:=⟨_,rfl⟩
 rw[<-T]at HP;have aH:=hZ R;have aJ:=hZ T;have aF:=hZ aa;rw[<-R,<-T,<-aa];have BN:Hid (Ac (((w.alloc (.cells #[.int .i64 k,.string p,.string f,.slice a n c] 42)).alloc (.cells (Db 0 ⟨#[]⟩ ⟨#[]⟩ (.slice none 0 0)).toArray 111)).alloc (.cells (Db 0 ⟨#[]⟩ ⟨#[]⟩ (.slice none 0 0)).toArray 111)) (w.heap.size+1+1) (Db 0 ⟨#[]⟩ ⟨#[]⟩ (.slice none 0 0)) 111):=hZ (by have:=Ac.new ((w.alloc (.cells #[.int .i64 k,.string p,.string f,.slice a n c] 42)).alloc (.cells (Db 0 ⟨#[]⟩ ⟨#[]⟩ (.slice none 0 0)).toArray 111)) (Db 0 ⟨#[]⟩ ⟨#[]⟩ (.slice none 0 0)) 111;simpa using this);have ay:Hid (Ac (((w.alloc (.cells #[.int .i64 k,.string p,.string f,.slice a n c] 42)).alloc (.cells (Db 0 ⟨#[]⟩ ⟨#[]⟩ (.slice none 0 0)).toArray 111)).alloc (.cells (Db 0 ⟨#[]⟩ ⟨#[]⟩ (.slice none 0 0)).toArray 111)) (w.heap.size+1) (Db 0 ⟨#[]⟩ ⟨#[]⟩ (.slice none 0 0)) 111):=hZ ((CH w _ _ _).alloc _);have aA:Hid (Ac (((w.alloc (.cells #[.int .i64 k,.string p,.string f,.slice a n c] 42)).alloc (.cells (Db 0 ⟨#[]⟩ ⟨#[]⟩ (.slice none 0 0)).toArray 111)).alloc (.cells (Db 0 ⟨#[]⟩ ⟨#[]⟩ (.slice none 0 0)).toArray 111)) w.heap.size (BJ ⟨k,p,f,[]⟩ (.slice a n c)) 42):=hZ (((Ac.new w (BJ ⟨k,p,f,[]⟩ (.slice a n c)) 42).alloc _).alloc _);clear hk R S hL hs ap T aa af U hR hS l ao N ad ae;go_enter func52,ntmps52
 go_wp2_with(first
  |(refine Ae rfl _ _ _ rfl (w.heap.size+1+1) (Db k p f (.slice a n c)) (by rfl) (by rfl) 111 (Db 0 ⟨#[]⟩ ⟨#[]⟩ (.slice none 0 0)) (by exact BN.o) Ce rfl (IK _ _ _ _ _ _) ?_;intro w0 ar al P;have aD:=hZ al;have aU:=hZ ar;have H0:Hid (Chg w w0 []):=hZ (Chg.step (b:=_) (by exact cg cR) P (fun i hi hl=>by simp at hi;omega));have ah:Hid (Ac w0 w.heap.size (BJ ⟨k,p,f,[]⟩ (.slice a n c)) 42):=hZ (Ac.kept (w:=_) (by exact aA.o) P (by simp;omega));have au:Hid (Ac w0 (w.heap.size+1) (Db 0 ⟨#[]⟩ ⟨#[]⟩ (.slice none 0 0)) 111):=hZ (Ac.kept (w:=_) (by exact ay.o) P (by simp));have x0:=ah.o.cell 0;unfold BJ at x0;simp only[Qa,Qb]at x0;clear ar al P)
  |(go_at_call 90;refine(HU.o _).mono ?_;rintro e w1 ⟨rfl,m⟩;have X:Hid (Chg w w1 []):=hZ (ct H0.o m);have M:=hZ (ah.o.kept m);have ag:=hZ (aD.o.kept m);have av:=hZ (au.o.kept m);have x1:=M.o.cell 1;have x2:=M.o.cell 2;have x3:=M.o.cell 3;unfold BJ at x1 x2 x3;simp only[Qa,Qb]at x1 x2 x3;clear m)
  |(go_at_call_of 53 (Vl.bool true);refine(Bv _ _).mono ?_;rintro e w2 ⟨rfl,rfl⟩)
  |(go_at_call_of 58 (Vl.string p);refine(HP.o _ (by exact cg X.o)).mono ?_;rintro e z ⟨a1,rfl,q,u,B⟩;have Q1:=hZ q;obtain⟨t,c1,rfl,_⟩:=q.form;have K:=hZ (ag.o.kept B);have az:=hZ (M.o.kept B);have aw:=hZ (av.o.kept B);have y4:=K.o.cell 4;have z4:∀j,z.frozen? ⟨w.heap.size+1+1,j,none⟩=false:=fun j=>K.o.frozen j;have x5:=az.o.cell 3;unfold Db at y4;unfold BJ at x5;simp only[Qa,Qb]at y4 x5;have Y:Hid (Chg w z []):=hZ (ct X.o B);have l3:=K.o.lt;have Q2:=hZ u;have aB:=hZ B;clear B q u)
  |(go_at_call 28;refine(HB.o _ (by exact Y.o.setCell _ _ (by simp;omega))).mono ?_;rintro e w5 ⟨r,y,rfl,q,u,h5⟩;have T1:=hZ q;have T2:=hZ u;have ai:=hZ h5;clear h5 q u)
  |(go_at_call 68;refine(aM.o r y _ T1.o T2.o).mono ?_;rintro e w6 ⟨vv,D,rfl,q,h6,u⟩;have V1:=hZ q;have V2:=hZ u;have aj:=hZ h6;clear h6 q u)
  |(go_at_call 76;refine(aI.o D vv _ V1.o (fun b l=>(V2.o b l).2)).mono ?_;rintro e F ⟨vx,bx,rfl,q,u,h8⟩;have aS:=hZ h8;have H:=ai.o.trans (aj.o.trans h8);have aC:=hZ H;have N2:=hZ u;obtain⟨E,G,rfl⟩:=q.iface;have N1:=hZ q;have L:=hZ (((K.o.set 4 (.slice t (Ad ts).length c1))).kept H);have ax:=hZ ((aw.o.set_other ⟨w.heap.size+1+1,4,none⟩ (.slice t (Ad ts).length c1) (by simp)).kept H);have y6:=L.o.cell 6;have z6:∀j,F.frozen? ⟨w.heap.size+1+1,j,none⟩=false:=fun j=>L.o.frozen j;have l8:=L.o.lt;unfold Db at y6;simp only[Qa,Qb,List.set_cons_zero,List.set_cons_succ]at y6;have H8:Hid (Chg w F []):=hZ (Chg.trans (b:=_) (by exact Y.o.setCell _ _ (by simp;omega)) H);clear h8 H q u)
  |(refine Bp rfl _ _ rfl (w.heap.size+1+1) (by rfl) 111 [.int .i64 k,.string p,.string f,.slice a n c,.slice t (Ad ts).length c1,.slice none 0 0,.iface E G] (by exact L.o.set 6 (.iface E G)) _ underlying111 rfl Ce ?_)
  |(refine Ae rfl _ _ _ rfl (w.heap.size+1) [.int .i64 k,.string p,.string f,.slice a n c,.slice t (Ad ts).length c1,.slice none 0 0,.iface E G] (by rfl) (by rfl) 111 (Db 0 ⟨#[]⟩ ⟨#[]⟩ (.slice none 0 0)) (by exact ax.o.set_other _ _ (by simp)) Ce rfl (by simp[Vl.oneCell']) ?_;intro J aR am an;have aE:=hZ am;have Z:=hZ an;clear aR am an))
 have aX:=Y.o.size;have aV:=ag.o.lt;have Q:∀b,(Vl.slice t (Ad ts).length c1).ownBlock=some b->w1.heap.size<=b:=fun b l=>Q2.o.ge b (by rw[l];simp)
 have aQ:∀b,(Vl.slice t (Ad ts).length c1).ownBlock=some b->b<z.heap.size:=fun b l=>Q1.o.lt l
 have aW:=X.o.size;have aY:=aB.o.size;have aZ:z.heap.size<=w5.heap.size:=by simpa using ai.o.size
 have a0:=aj.o.size;have O:∀b,b∈bx->z.heap.size<=b:=fun b l=>by have:=N2.o.ge b l;omega
 have aO:AK F (.slice t (Ad ts).length c1) 9 (Ad ts):=(Q1.o.kept ((Chg.refl z [w.heap.size+1+1]).setCell ⟨w.heap.size+1+1,4,none⟩ (.slice t (Ad ts).length c1) (by simp)) (fun g I A=>by have:=Q g I;simp at A;omega)).kept aC.o;have aq:Chg F (F.setCell ⟨w.heap.size+1+1,6,none⟩ (.iface E G)) [w.heap.size+1+1]:=(Chg.refl F _).setCell _ _ (by simp);have aN:AK J (.slice t (Ad ts).length c1) 9 (Ad ts):=(aO.kept aq (fun g I A=>by have:=Q g I;simp at A;omega)).kept Z.o (fun g I A=>by have:=Q g I;simp at A;omega);have aP:AP J x (.iface E G) bx:=(N1.o.chg aq (fun b l A=>by have:=O b A;simp at l;omega)).chg Z.o (fun b l A=>by have:=O b A;simp at l;omega);refine bodyPost_ret (Bi rfl _ _ (w.heap.size+1) 111 [.int .i64 k,.string p,.string f,.slice a n c,.slice t (Ad ts).length c1,.slice none 0 0,.iface E G] _ rfl aE.o underlying111 rfl Ce) rfl ?_;have e1:=aH.o;have e2:=aJ.o;have e3:=aF.o;subst e1 e2 e3;have hC:Chg w J []:=Chg.step (b:=_) (by exact H8.o.setCell _ _ (by simp;omega)) Z.o (fun i hi hl=>by simp at hi;omega);refine⟨_,_,_,bx,(fun b=>(Vl.slice t (Ad ts).length c1).ownBlock=some b),(fun _=>False),rfl,⟨?_,(fun e=>by rw[ak.o]at e;cases e),(fun _=>⟨aP,aG.o⟩),aK.o,(fun e=>by rw[ak.o]at e;cases e),aL.o⟩,⟨N2.o.nodup,fun b l=>by have:=O b l;omega⟩,(fun b l=> ?_),(fun b l=>l.elim),(fun b l=>⟨fun h=> ?_,fun h=>h⟩),hC,rfl,rfl⟩
 .exact HT.o _ J J aN cR
 .have:=Q b l;omega
 .have:=O b l;have:=aQ b h;omega
structure T7(o:Bq):Prop where
 path:o.path.size<=16777216
 frm:o.frm.size<=16777216
 steps:∀s∈o.steps,Di s
 len:o.steps.length<=4294967296
def Co(o:Bq)(sv:Vl)(w:Wl)(e:Ending)(w':Wl):Prop:=
 if Bn o≠0 then AZ (Bn o) [] w e w' else∃b a x,I8 o b a x sv w e w'/\(AN o.kind=true->AS o.steps=some x)
theorem Iu{k:Int}:CP k=true↔¬(k<1\/6<k):=by
 unfold CP;rw[decide_eq_true_iff];omega
theorem Co.no{o:Bq}{sv:Vl}{w:Wl}{n:Nat}(h:Bn o=n)(a:n≠0):Co o sv w=AZ n [] w:=by
 funext e w';unfold Co;rw[h,Qr a]
theorem Co.yes{o:Bq}{sv:Vl}{w w':Wl}{e:Ending}{b a:List BY}{x:Tr}(h:Bn o=0)(c:I8 o b a x sv w e w')(d:AN o.kind=true->AS o.steps=some x):Co o sv w e w':=by
 unfold Co;rw[h,Qs (by simp)];exact⟨b,a,x,c,d⟩
theorem SN{o:Bq}(a:CP o.kind=false):Bn o=170:=by
 have:¬CP o.kind=true:=by simp[a]
 rw[Iu,Classical.not_not]at this;unfold Bn;rw[Qr this]
theorem LT{o:Bq}(a:CP o.kind=true)(b:AD o.path=none\/(AO o.kind=true/\AD o.frm=none)):Bn o=171:=by
 unfold Bn;rw[Qs (Iu.1 a),Qr b]
theorem GH{o:Bq}(a:CP o.kind=true)(b:¬(AD o.path=none\/(AO o.kind=true/\AD o.frm=none))):Bn o=if AN o.kind=true/\(AS o.steps).isNone=true then 174 else 0:=by
 unfold Bn;rw[Qs (Iu.1 a),Qs b]
theorem Xu(o:Bq)(sv:Vl)(ys:List Vl)(w:Wl)(k:Br w)(b:T7 o)(p:As w sv 6 o.steps.length ys)(r:Az w o.steps ys):
  Cl prog 52 #[.agg (BJ o sv).toArray] w (Co o sv w):=by
 obtain⟨a,c,rfl,t,u⟩:=p.form
 cases d:CP o.kind with
 |false=>
  rw[Co.no (SN d) (by decide)];exact RF o a _ c w d
 |true=>
  cases g:AD o.path with
  |none=>
   rw[Co.no (LT d (.inl g)) (by decide)];exact RH o a _ c w k b.path d g
  |some ts=>
   cases i:AO o.kind with
   |true=>
    have f:AN o.kind=false:=by
     cases h:AN o.kind with
     |false=>rfl
     |true=>rw[Nd h]at i;cases i
    cases n:AD o.frm with
    |none=>
     rw[Co.no (LT d (.inr ⟨i,n⟩)) (by decide)];exact RE o a _ c w k b.path b.frm d ts g i n
    |some s=>
     have j:Bn o=0:=by
      rw[GH d (by rw[g,n];simp),f];simp
     exact(TB o a _ c w k b.path b.frm d ts g s n i f).mono fun e w' h=>Co.yes j h (fun l=>by rw[f]at l;cases l)
   |false=>
    have q:¬(AD o.path=none\/(AO o.kind=true/\AD o.frm=none)):=by rw[g,i];simp
    cases f:AN o.kind with
    |false=>
     have j:Bn o=0:=by rw[GH d q,f];simp
     exact(RG o a _ c w k b.path b.frm d ts g i f).mono fun e w' h=>Co.yes j h (fun l=>by rw[f]at l;cases l)
    |true=>
     cases m:AS o.steps with
     |none=>
      have j:Bn o=174:=by rw[GH d q,f,m];simp
      rw[Co.no j (by decide)];exact TC o a _ c w k b.path d ts g f ys p r b.steps b.len m
     |some x=>
      have j:Bn o=0:=by rw[GH d q,f,m];simp
      exact(Xv o a _ c w k b.path b.frm d ts g x f ys p r b.steps b.len m).mono fun e w' h=>Co.yes j h (fun _=>m)
theorem VL{t:Tr}{o:Bq}{j g:List BY}{x:Tr}(h:Bn o=0)(l:AD o.path=some j)(i:AO o.kind=true->AD o.frm=some g)(f:AN o.kind=true->AS o.steps=some x):
  Da t o j g x=Gz t o:=by
 unfold Gz;rw[h,Qs (by simp),l,Option.getD_some];unfold Da;by_cases a:o.kind=1
 .rw[Qr a,Qr a,f (by rw[a];rfl)];rfl
 rw[Qs a,Qs a];by_cases e:o.kind=2
 .rw[Qr e,Qr e]
 rw[Qs e,Qs e];by_cases b:o.kind=3
 .rw[Qr b,Qr b,f (by rw[b];rfl)];rfl
 rw[Qs b,Qs b];by_cases c:o.kind=4
 .rw[Qr c,Qr c,i (by rw[c];rfl)];rfl
 rw[Qs c,Qs c];by_cases d:o.kind=5
 .rw[Qr d,Qr d,i (by rw[d];rfl)];rfl
 rw[Qs d,Qs d]
 have k:o.kind=6:=by
  have:=(EK h).1;omega
 rw[f (by rw[k];rfl)];rfl
end
end Go.Proofs.YtkfnkppdhcaeoaaGreatDoor

/- Part 19 of the proof of patchJoined_card. -/
import Derived.Test.YtkfnkppdhcaeoaaGreatDoorM12
import Derived.Test.YtkfnkppdhcaeoaaGreatDoorM18
set_option maxRecDepth 100000
set_option maxHeartbeats 32000000
set_option linter.unusedSimpArgs false
set_option linter.unusedVariables false
set_option linter.unnecessarySimpa false
namespace Go.Proofs.YtkfnkppdhcaeoaaGreatDoor
open Go renaming Calls->Cl,TypeId->Ti,Value->Vl,World->Wl
section
open _root_.Go.Proofs.Tryz
open Go Go.RowKit Tree Ptr
theorem MU(w:Wl):(callMethod (.iface 271 (.agg #[])) "Sort" #[]).run prog w= .ok (.enter 336 #[.agg #[]]) w:=by kernel_rfl
theorem MT(b:Bool)(w:Wl):(callMethod (.iface 272 (.bool b)) "Sort" #[]).run prog w= .ok (.enter 338 #[.bool b]) w:=by kernel_rfl
theorem NM(b:Nat)(w:Wl):(callMethod (.iface 273 (.float .f64 b)) "Sort" #[]).run prog w= .ok (.enter 340 #[.float .f64 b]) w:=by kernel_rfl
theorem MV(b:BY)(w:Wl):(callMethod (.iface 179 (.string b)) "Sort" #[]).run prog w= .ok (.enter 319 #[.string b]) w:=by kernel_rfl
theorem Nl(w:Wl):Cl prog 336 #[.agg #[]] w fun e w'=>e= .returned (.int .i64 1)/\Chg w w' []:=by
 go_enter func336,ntmps336
 go_wp2
 go_ret
 exact⟨rfl,by exact cg cR⟩
theorem Nk(b:Bool)(w:Wl):Cl prog 338 #[.bool b] w fun e w'=>e= .returned (.int .i64 2)/\Chg w w' []:=by
 go_enter func338,ntmps338
 go_wp2
 go_ret
 exact⟨rfl,by exact cg cR⟩
theorem OT(b:Nat)(w:Wl):Cl prog 340 #[.float .f64 b] w fun e w'=>e= .returned (.int .i64 3)/\Chg w w' []:=by
 go_enter func340,ntmps340
 go_wp2
 go_ret
 exact⟨rfl,by exact cg cR⟩
theorem Nm(b:BY)(w:Wl):Cl prog 319 #[.string b] w fun e w'=>e= .returned (.int .i64 4)/\Chg w w' []:=by
 go_enter func319,ntmps319
 go_wp2
 go_ret
 exact⟨rfl,by exact cg cR⟩
theorem Ba.slots{w:Wl}{sv:Vl}{e:Ti}{sz n:Nat}{xs:List Vl}(h:Ba w sv e sz n xs):∃a c,sv= .slice a n c:=by
 obtain⟨a,c,h,_⟩:=h.form;exact⟨a,c,h⟩
theorem JW(G:Nat->Prop)(sv:Vl)(n:Nat)(l:List Ap)(xs:List Vl)(w:Wl)(r:Nj [] G sv n l xs w)(J:n+1<=4294967296):
  Cl prog 322 #[.agg #[AG .null],sv] w (CJ G sv n 1 (l++MW .null) w):=by
 obtain⟨L,M,rfl⟩:=r.lst.slots;have N:∀(w:Wl),(Instr.typeAssert (.iface 271 (.agg #[])) 181 272 true).run prog w= .ok (.tuple #[.bool false,.bool false]) w:=fun _=>by kernel_rfl
 have O:∀(w:Wl),(Instr.typeAssert (.iface 271 (.agg #[])) 181 273 true).run prog w= .ok (.tuple #[.float .f64 0,.bool false]) w:=fun _=>by kernel_rfl
 have P:∀(w:Wl),(Instr.typeAssert (.iface 271 (.agg #[])) 181 179 true).run prog w= .ok (.tuple #[.string ⟨#[]⟩,.bool false]) w:=fun _=>by kernel_rfl
 have a:=hZ r;have t:Hid ((n+1)*72<=140737488355328/\n<=140737488355328):=hZ ⟨by omega,by omega⟩;clear r J;unfold AG;go_enter func322,ntmps322
 go_upto_region 12 with(first
  |(refine Am rfl _ _ _ rfl _ rfl 336 #[.agg #[]] (MU _) _ (Nl _) ?_;rintro e d ⟨rfl,f⟩;refine⟨_,rfl, ?_⟩;have F:d.cell? ⟨w.heap.size,0,none⟩=some (.iface 271 (.agg #[])):=f.keeps (Bx rfl _ _);have K:w.heap.size<d.heap.size:=by have:=f.size;simp at this;omega)
  |(go_at_call 323;refine(Pj _ _).mono ?_;rintro e T ⟨rfl,rfl⟩))
 obtain⟨X,q⟩:∃X,X=d.heap.size:=⟨_,rfl⟩
 obtain⟨m,k⟩:∃x,x=d.alloc (.cells (AI (Aa .null).toI (.slice none 0 0)).toArray 72):=⟨_,rfl⟩
 have E:Hid (Ac m X (AI (Aa .null).toI (.slice none 0 0)) 72):=by rw[k,q];exact hZ (Ac.new _ _ _)
 have p:Hid (Chg w m []):=by rw[k];exact hZ (((Chg.refl w []).alloc _).trans f|>.alloc _)
 change Code.wp _ _ _ _ (d.alloc (.cells (AI (Aa .null).toI (.slice none 0 0)).toArray 72));rw[<-k,<-q];obtain⟨xl,xf,U,V,W,Y,Z,x5⟩:=E.o.cells6;clear k q f F K
 go_wp2_with(first
  |(at_builtin;go_loud(refine Bg rfl _ _ _ rfl 72 Iq 6 72 (by decide) underlying22 DM rfl (.slice L n M) n xs (by rfl) (by exact a.o.lst.kept (bs:=[]) (by exact cg p.o) (by simp)) m.heap.size (AI (Aa .null).toI (.slice none 0 0)) (by rfl) rfl (by intro j v s;exact((Ac.new m (AI (Aa .null).toI (.slice none 0 0)) 72).cell j).trans s) (C0 _ _ _ _) t.o.1 t.o.2 ?_);intro g Q S A y B;have D:=hZ A;have C:=hZ y;have u:=hZ B;clear A y B))
 go_ret
 have R:=p.o.size;refine CJ.put (sk:= .slice none 0 0) (G2:=G) a.o (p.o.alloc _) D.o C.o ?_ ⟨none,0,rfl,Q8 _,rfl,fun i v s=>by simp[Ad,Aa,Aw.toI]at s⟩ (fun b o n c e=>by cases e) (fun _ h=>h) (fun _ h _=>h) (fun b H=> ?_) ?_ (fun g I=>(a.o.own g I).2)
 .rcases u.o with h|h
  .exact .inl h
  .right;rw[World.size_alloc]at h;omega
 .have:=a.o.ltG b H;simp;omega
 .intro z
  rcases u.o with h|h
  .exact(a.o.own _ h).2 z
  .have:=a.o.ltG _ z;rw[World.size_alloc]at h;omega
theorem JV(b:Bool)(G:Nat->Prop)(sv:Vl)(n:Nat)(l:List Ap)(xs:List Vl)(w:Wl)(r:Nj [] G sv n l xs w)(J:n+1<=4294967296):
  Cl prog 322 #[.agg #[AG (.flag b)],sv] w (CJ G sv n 1 (l++MW (.flag b)) w):=by
 obtain⟨L,M,rfl⟩:=r.lst.slots;have N:∀(w:Wl),(Instr.typeAssert (.iface 272 (.bool b)) 181 272 true).run prog w= .ok (.tuple #[.bool b,.bool true]) w:=fun _=>by kernel_rfl
 have a:=hZ r;have t:Hid ((n+1)*72<=140737488355328/\n<=140737488355328):=hZ ⟨by omega,by omega⟩;clear r J;unfold AG;go_enter func322,ntmps322
 go_upto_region 12 with(first
  |(refine Am rfl _ _ _ rfl _ rfl 338 #[.bool b] (MT b _) _ (Nk b _) ?_;rintro e d ⟨rfl,f⟩;refine⟨_,rfl, ?_⟩;have F:d.cell? ⟨w.heap.size,0,none⟩=some (.iface 272 (.bool b)):=f.keeps (Bx rfl _ _);have K:w.heap.size<d.heap.size:=by have:=f.size;simp at this;omega)
  |(go_at_call 323;refine(Pj _ _).mono ?_;rintro e R ⟨rfl,rfl⟩))
 obtain⟨X,q⟩:∃X,X=d.heap.size:=⟨_,rfl⟩
 obtain⟨m,k⟩:∃x,x=d.alloc (.cells (AI (Aa (.flag b)).toI (.slice none 0 0)).toArray 72):=⟨_,rfl⟩
 have E:Hid (Ac m X (AI (Aa (.flag b)).toI (.slice none 0 0)) 72):=by rw[k,q];exact hZ (Ac.new _ _ _)
 have p:Hid (Chg w m []):=by rw[k];exact hZ (((Chg.refl w []).alloc _).trans f|>.alloc _)
 change Code.wp _ _ _ _ (d.alloc (.cells (AI (Aa (.flag b)).toI (.slice none 0 0)).toArray 72));rw[<-k,<-q];obtain⟨xl,Z,S,T,U,V,W,Y⟩:=E.o.cells6;clear k q f F K
 go_wp2_with(first
  |(at_builtin;go_loud(refine Bg rfl _ _ _ rfl 72 Iq 6 72 (by decide) underlying22 DM rfl (.slice L n M) n xs (by rfl) (by exact a.o.lst.kept (bs:=[]) (by exact cg p.o) (by simp)) m.heap.size (AI (Aa (.flag b)).toI (.slice none 0 0)) (by rfl) rfl (by intro j v s;exact((Ac.new m (AI (Aa (.flag b)).toI (.slice none 0 0)) 72).cell j).trans s) (C0 _ _ _ _) t.o.1 t.o.2 ?_);intro g O Q A y B;have D:=hZ A;have C:=hZ y;have u:=hZ B;clear A y B))
 go_ret
 have P:=p.o.size;refine CJ.put (sk:= .slice none 0 0) (G2:=G) a.o (p.o.alloc _) D.o C.o ?_ ⟨none,0,rfl,Q8 _,rfl,fun i v s=>by simp[Ad,Aa,Aw.toI]at s⟩ (fun b o n c e=>by cases e) (fun _ h=>h) (fun _ h _=>h) (fun b H=> ?_) ?_ (fun g I=>(a.o.own g I).2)
 .rcases u.o with h|h
  .exact .inl h
  .right;rw[World.size_alloc]at h;omega
 .have:=a.o.ltG b H;simp;omega
 .intro z
  rcases u.o with h|h
  .exact(a.o.own _ h).2 z
  .have:=a.o.ltG _ z;rw[World.size_alloc]at h;omega
theorem Ky(b:Nat)(G:Nat->Prop)(sv:Vl)(n:Nat)(l:List Ap)(xs:List Vl)(w:Wl)(r:Nj [] G sv n l xs w)(J:n+1<=4294967296):
  Cl prog 322 #[.agg #[AG (.num b)],sv] w (CJ G sv n 1 (l++MW (.num b)) w):=by
 obtain⟨L,M,rfl⟩:=r.lst.slots;have N:∀(w:Wl),(Instr.typeAssert (.iface 273 (.float .f64 b)) 181 272 true).run prog w= .ok (.tuple #[.bool false,.bool false]) w:=fun _=>by kernel_rfl
 have O:∀(w:Wl),(Instr.typeAssert (.iface 273 (.float .f64 b)) 181 273 true).run prog w= .ok (.tuple #[.float .f64 b,.bool true]) w:=fun _=>by kernel_rfl
 have a:=hZ r;have t:Hid ((n+1)*72<=140737488355328/\n<=140737488355328):=hZ ⟨by omega,by omega⟩;clear r J;unfold AG;go_enter func322,ntmps322
 go_upto_region 12 with(first
  |(refine Am rfl _ _ _ rfl _ rfl 340 #[.float .f64 b] (NM b _) _ (OT b _) ?_;rintro e d ⟨rfl,f⟩;refine⟨_,rfl, ?_⟩;have F:d.cell? ⟨w.heap.size,0,none⟩=some (.iface 273 (.float .f64 b)):=f.keeps (Bx rfl _ _);have K:w.heap.size<d.heap.size:=by have:=f.size;simp at this;omega)
  |(go_at_call 323;refine(Pj _ _).mono ?_;rintro e S ⟨rfl,rfl⟩))
 obtain⟨X,q⟩:∃X,X=d.heap.size:=⟨_,rfl⟩
 obtain⟨m,k⟩:∃x,x=d.alloc (.cells (AI (Aa (.num b)).toI (.slice none 0 0)).toArray 72):=⟨_,rfl⟩
 have E:Hid (Ac m X (AI (Aa (.num b)).toI (.slice none 0 0)) 72):=by rw[k,q];exact hZ (Ac.new _ _ _)
 have p:Hid (Chg w m []):=by rw[k];exact hZ (((Chg.refl w []).alloc _).trans f|>.alloc _)
 change Code.wp _ _ _ _ (d.alloc (.cells (AI (Aa (.num b)).toI (.slice none 0 0)).toArray 72));rw[<-k,<-q];obtain⟨xl,xf,T,U,V,W,Y,Z⟩:=E.o.cells6;clear k q f F K
 go_wp2_with(first
  |(at_builtin;go_loud(refine Bg rfl _ _ _ rfl 72 Iq 6 72 (by decide) underlying22 DM rfl (.slice L n M) n xs (by rfl) (by exact a.o.lst.kept (bs:=[]) (by exact cg p.o) (by simp)) m.heap.size (AI (Aa (.num b)).toI (.slice none 0 0)) (by rfl) rfl (by intro j v s;exact((Ac.new m (AI (Aa (.num b)).toI (.slice none 0 0)) 72).cell j).trans s) (C0 _ _ _ _) t.o.1 t.o.2 ?_);intro g P R A y B;have D:=hZ A;have C:=hZ y;have u:=hZ B;clear A y B))
 go_ret
 have Q:=p.o.size;refine CJ.put (sk:= .slice none 0 0) (G2:=G) a.o (p.o.alloc _) D.o C.o ?_ ⟨none,0,rfl,Q8 _,rfl,fun i v s=>by simp[Ad,Aa,Aw.toI]at s⟩ (fun b o n c e=>by cases e) (fun _ h=>h) (fun _ h _=>h) (fun b H=> ?_) ?_ (fun g I=>(a.o.own g I).2)
 .rcases u.o with h|h
  .exact .inl h
  .right;rw[World.size_alloc]at h;omega
 .have:=a.o.ltG b H;simp;omega
 .intro z
  rcases u.o with h|h
  .exact(a.o.own _ h).2 z
  .have:=a.o.ltG _ z;rw[World.size_alloc]at h;omega
theorem JX(b:BY)(G:Nat->Prop)(sv:Vl)(n:Nat)(l:List Ap)(xs:List Vl)(w:Wl)(r:Nj [] G sv n l xs w)(J:n+1<=4294967296):
  Cl prog 322 #[.agg #[AG (.text b)],sv] w (CJ G sv n 1 (l++MW (.text b)) w):=by
 obtain⟨L,M,rfl⟩:=r.lst.slots;have N:∀(w:Wl),(Instr.typeAssert (.iface 179 (.string b)) 181 272 true).run prog w= .ok (.tuple #[.bool false,.bool false]) w:=fun _=>by kernel_rfl
 have O:∀(w:Wl),(Instr.typeAssert (.iface 179 (.string b)) 181 273 true).run prog w= .ok (.tuple #[.float .f64 0,.bool false]) w:=fun _=>by kernel_rfl
 have P:∀(w:Wl),(Instr.typeAssert (.iface 179 (.string b)) 181 179 true).run prog w= .ok (.tuple #[.string b,.bool true]) w:=fun _=>by kernel_rfl
 have a:=hZ r;have t:Hid ((n+1)*72<=140737488355328/\n<=140737488355328):=hZ ⟨by omega,by omega⟩;clear r J;unfold AG;go_enter func322,ntmps322
 go_upto_region 12 with(first
  |(refine Am rfl _ _ _ rfl _ rfl 319 #[.string b] (MV b _) _ (Nm b _) ?_;rintro e d ⟨rfl,f⟩;refine⟨_,rfl, ?_⟩;have F:d.cell? ⟨w.heap.size,0,none⟩=some (.iface 179 (.string b)):=f.keeps (Bx rfl _ _);have K:w.heap.size<d.heap.size:=by have:=f.size;simp at this;omega)
  |(go_at_call 323;refine(Pj _ _).mono ?_;rintro e T ⟨rfl,rfl⟩))
 obtain⟨X,q⟩:∃X,X=d.heap.size:=⟨_,rfl⟩
 obtain⟨m,k⟩:∃x,x=d.alloc (.cells (AI (Aa (.text b)).toI (.slice none 0 0)).toArray 72):=⟨_,rfl⟩
 have E:Hid (Ac m X (AI (Aa (.text b)).toI (.slice none 0 0)) 72):=by rw[k,q];exact hZ (Ac.new _ _ _)
 have p:Hid (Chg w m []):=by rw[k];exact hZ (((Chg.refl w []).alloc _).trans f|>.alloc _)
 change Code.wp _ _ _ _ (d.alloc (.cells (AI (Aa (.text b)).toI (.slice none 0 0)).toArray 72));rw[<-k,<-q];obtain⟨xl,xf,U,V,W,Y,Z,x5⟩:=E.o.cells6;clear k q f F K
 go_wp2_with(first
  |(at_builtin;go_loud(refine Bg rfl _ _ _ rfl 72 Iq 6 72 (by decide) underlying22 DM rfl (.slice L n M) n xs (by rfl) (by exact a.o.lst.kept (bs:=[]) (by exact cg p.o) (by simp)) m.heap.size (AI (Aa (.text b)).toI (.slice none 0 0)) (by rfl) rfl (by intro j v s;exact((Ac.new m (AI (Aa (.text b)).toI (.slice none 0 0)) 72).cell j).trans s) (C0 _ _ _ _) t.o.1 t.o.2 ?_);intro g Q S A y B;have D:=hZ A;have C:=hZ y;have u:=hZ B;clear A y B))
 go_ret
 have R:=p.o.size;refine CJ.put (sk:= .slice none 0 0) (G2:=G) a.o (p.o.alloc _) D.o C.o ?_ ⟨none,0,rfl,Q8 _,rfl,fun i v s=>by simp[Ad,Aa,Aw.toI]at s⟩ (fun b o n c e=>by cases e) (fun _ h=>h) (fun _ h _=>h) (fun b H=> ?_) ?_ (fun g I=>(a.o.own g I).2)
 .rcases u.o with h|h
  .exact .inl h
  .right;rw[World.size_alloc]at h;omega
 .have:=a.o.ltG b H;simp;omega
 .intro z
  rcases u.o with h|h
  .exact(a.o.own _ h).2 z
  .have:=a.o.ltG _ z;rw[World.size_alloc]at h;omega
theorem Rn{a b:Nat}(c:Hs a)(d:Hs b):(FloatKind.f64.format.order a b==some .eq)=decide (a=b):=by
 have f:∀{n:Nat},Hs n->Fl.A7 n=0->n=0:=fun{n} h g=>by
  have:=h.2.2;unfold Cg at this;rw[Qr g]at this;exact this.symm
 have e:∀{n:Nat},Hs n->Fl.A7 n<9218868437227405312:=fun{n} h=>by have:=h.2.1;unfold Fl.Fh at this;simpa using this
 exact Fl.Tq c.1 d.1 (e c) (e d) (f c) (f d)
def AX:Tr->Bool
 | .list _=>false
 | .obj _ _=>false
 |_=>true
theorem Nv(w:Wl):(binOp .eql 181 (AG .null) (AG .null)).run prog w= .ok (.bool true) w:=by kernel_rfl
theorem Nu(b:Bool)(w:Wl):(binOp .eql 181 (AG .null) (AG (.flag b))).run prog w= .ok (.bool false) w:=by kernel_rfl
theorem O5(b:Nat)(w:Wl):(binOp .eql 181 (AG .null) (AG (.num b))).run prog w= .ok (.bool false) w:=by kernel_rfl
theorem Nw(b:BY)(w:Wl):(binOp .eql 181 (AG .null) (AG (.text b))).run prog w= .ok (.bool false) w:=by kernel_rfl
theorem Nr(a:Bool)(w:Wl):(binOp .eql 181 (AG (.flag a)) (AG .null)).run prog w= .ok (.bool false) w:=by kernel_rfl
theorem Nq(a:Bool)(b:Bool)(w:Wl):(binOp .eql 181 (AG (.flag a)) (AG (.flag b))).run prog w= .ok (.bool (a==b)) w:=by kernel_rfl
theorem O3(a:Bool)(b:Nat)(w:Wl):(binOp .eql 181 (AG (.flag a)) (AG (.num b))).run prog w= .ok (.bool false) w:=by kernel_rfl
theorem Ns(a:Bool)(b:BY)(w:Wl):(binOp .eql 181 (AG (.flag a)) (AG (.text b))).run prog w= .ok (.bool false) w:=by kernel_rfl
theorem O7(a:Nat)(w:Wl):(binOp .eql 181 (AG (.num a)) (AG .null)).run prog w= .ok (.bool false) w:=by kernel_rfl
theorem O6(a:Nat)(b:Bool)(w:Wl):(binOp .eql 181 (AG (.num a)) (AG (.flag b))).run prog w= .ok (.bool false) w:=by kernel_rfl
theorem QI(a:Nat)(b:Nat)(w:Wl):(binOp .eql 181 (AG (.num a)) (AG (.num b))).run prog w= .ok (.bool (FloatKind.f64.format.order a b==some .eq)) w:=by kernel_rfl
theorem O8(a:Nat)(b:BY)(w:Wl):(binOp .eql 181 (AG (.num a)) (AG (.text b))).run prog w= .ok (.bool false) w:=by kernel_rfl
theorem Ny(a:BY)(w:Wl):(binOp .eql 181 (AG (.text a)) (AG .null)).run prog w= .ok (.bool false) w:=by kernel_rfl
theorem Nx(a:BY)(b:Bool)(w:Wl):(binOp .eql 181 (AG (.text a)) (AG (.flag b))).run prog w= .ok (.bool false) w:=by kernel_rfl
theorem O9(a:BY)(b:Nat)(w:Wl):(binOp .eql 181 (AG (.text a)) (AG (.num b))).run prog w= .ok (.bool false) w:=by kernel_rfl
theorem Nz(a:BY)(b:BY)(w:Wl):(binOp .eql 181 (AG (.text a)) (AG (.text b))).run prog w= .ok (.bool (a==b)) w:=by kernel_rfl
theorem P0(a b:BY):(a==b)=decide (a=b):=by
 have e:(a==b)=(a.data==b.data):=by cases a;cases b;rfl
 rw[e,Bool.eq_iff_iff,beq_iff_eq,decide_eq_true_eq];exact⟨fun h=>ByteArray.ext h,fun h=>by rw[h]⟩
theorem XJ(a b:Tr)(d:AX a=true)(c:AX b=true)(e:Av a)(f:Av b)(w:Wl):(binOp .eql 181 (AG a) (AG b)).run prog w= .ok (.bool (BQ a b)) w:=by
 cases a with
 |list _=>simp[AX]at d
 |obj _ _=>simp[AX]at d
 |null=>cases b with
  |list _=>simp[AX]at c
  |obj _ _=>simp[AX]at c
  |null=>exact Nv w
  |flag b=>exact Nu b w
  |num b=>exact O5 b w
  |text b=>exact Nw b w
 |flag a=>cases b with
  |list _=>simp[AX]at c
  |obj _ _=>simp[AX]at c
  |null=>exact Nr a w
  |flag b=>exact Nq a b w
  |num b=>exact O3 a b w
  |text b=>exact Ns a b w
 |num a=>cases b with
  |list _=>simp[AX]at c
  |obj _ _=>simp[AX]at c
  |null=>exact O7 a w
  |flag b=>exact O6 a b w
  |num b=>rw[QI a b w,Rn (by simpa only[Av]using e) (by simpa only[Av]using f)];simp only[BQ]
  |text b=>exact O8 a b w
 |text a=>cases b with
  |list _=>simp[AX]at c
  |obj _ _=>simp[AX]at c
  |null=>exact Ny a w
  |flag b=>exact Nx a b w
  |num b=>exact O9 a b w
  |text b=>rw[Nz a b w,P0];simp only[BQ]
theorem Hc(ks:List BY)(k:Nat):Ay (ks.take k)<=Ay ks:=by
 have:=congrArg Ay (List.take_append_drop k ks);rw[Hx]at this;omega
theorem NJ(ks:List BY)(l:List Tr)(vs:List Vl)(z:List Nat)(b:Nat)(a:Option Addr)(c:Nat)(sk:Vl)(w:Wl)(d:Ac w b [.slice a vs.length c,sk] 177)(A:AK w (.slice a vs.length c) 95 vs)(h:AK w sk 9 (Ad ks))(C:PsAt w l vs z)(p:∀u∈l,(Ag u).within=true)(T:l.length<=65536)(hk:ks.length=l.length)(E:Ay ks<=2097152)(y:∀u v P w',u∈l->AP w' u v P->JB v (Ag u) w'):
  Cl prog 316 #[.pointer (some ⟨b,0,none⟩)] w fun e w'=>e= .returned (Jv ((Bk l).over (Ay ks)))/\Chg w w' []:=by
 have f:=KW p l.length;rw[Qn (Q8 _)]at f;have R:w.cell? ⟨b,0,none⟩=some (.slice a vs.length c):=d.cell 0;have F:w.cell? ⟨b,1,none⟩=some sk:=d.cell 1;have W:=d.lt;have x:=hZ (Ld l vs z b a c w R A C p T y);obtain⟨V,kc,rfl,I⟩:=h.form;rw[Ao]at F h;have N:=hZ h;obtain⟨S,D⟩:∃S,S=Bk l:=⟨_,rfl⟩
 rw[<-D]at f x|-;obtain⟨X,K,Y⟩:=S;simp only at f;have n1:X<=4294967296:=by omega
 have n2:K<=137438953472:=by omega
 have n3:Y<=512:=f.2.2;have J:Ad ks≠[]->∃g,V=some ⟨g,0,none⟩:=I
 have O:=hZ J;have t:=hZ E;clear f D A C h p y I J E d;go_enter func316,ntmps316
 go_wp2_with(first|(go_at_call 303;refine x.o.mono ?_;rintro e w1 ⟨rfl,i⟩;unfold Jv Sz.over;have aa:=i.keeps F;have ae:=Q6 W i.size;have M:=hZ i;clear i))
 go_loopw [3,20] (fun Z r wr=>∃k:Nat,k<=ks.length/\Z= .int .i64 (K+Ay (ks.take k))/\r= .int .i64 k/\Chg w wr [])
  (fun _ r _=>ks.length-(intOf r).toNat)
 case atStart=>exact⟨0,by omega,by simp[Ay],rfl,M.o⟩
 case round=>
  obtain⟨k,ad,rfl,rfl,H⟩:=hrel;have o:=Hc ks k;obtain⟨B,d⟩:∃B,B=Ay (ks.take k):=⟨_,rfl⟩
  rw[<-d]at o|-;have n4:B<=2097152:=Q7 o t.o;have j:=hZ d;have m:=hZ H;clear o d H;by_cases U:k<ks.length
  .obtain⟨s,q⟩:∃s,ks[k]? =some s:=⟨_,Q9 U⟩
   obtain⟨g,rfl⟩:=O.o (by intro e;have Q:(Ad ks).length=0:=(by rw[e];rfl);rw[Ao]at Q;omega);have ab:wr.cell? ⟨g,k,none⟩=some (.string s):=m.o.keeps (N.o.cell rfl k _ (by simp[Ad,q]));have n:=FH q;have G:=Hc ks (k+1);have n5:B+s.size<=2097152:=by rw[j.o,<-n];exact Q7 G t.o
   have L:=hZ n;clear q n G;go_wp2
   go_roundw
   case rel=>exact⟨k+1,by omega,by rw[L.o,<-j.o];simp;omega,by go_num,m.o⟩
   case measure=>simp[intOf];omega
  .obtain rfl:k=ks.length:=by omega
   go_wp2
   refine bodyPost_ret (results_tmp3 rfl _ _ _) rfl ?_;have e:=j.o;rw[Qn (Q8 _)]at e;subst e;refine⟨?_,m.o⟩;unfold Jv Sz.over;simp;omega
theorem MD:∀(k:Nat) (t:Tr) (v:Vl) (bs:List Nat) (w:Wl),(Ag t).nodes<=k->Av t->(Ag t).within=true->AP w t v bs->JB v (Ag t) w:=by
 intro k
 induction k with
 |zero=>intro t _ _ _ h;have:=Cv t;omega
 |succ k L=>
  intro t v bs w N E z d
  have j:∀u v p w',u∈Ab t->AP w' u v p->JB v (Ag u) w':=by
   intro u v p w' g F;obtain⟨i,hi⟩:=List.mem_iff_getElem?.1 g;have:=CO hi;exact L u v p w' (by omega) (E.items u g) (C8 z g) F
  have m:∀u∈Ab t,(Ag u).within=true:=fun u g=>C8 z g
  have K:=Ar z;have A:=Bj t
  have o:∀(e:Vl) (s:BY) (b:Bool),v= .iface 183 (.agg #[e])->(∃M x,e= .iface M x)->Ag t=⟨1,s.size,1⟩->
    (∀w,(Instr.typeAssert e 181 179 true).run prog w= .ok (.tuple #[.string s,.bool b]) w)->JB v (Ag t) w:=by
   intro e s b J G H I;subst J;rw[H];exact⟨_,_,VB e w,RD e s b G I w⟩
  cases t with
  |null=>
   simp only[AP]at d;exact o (AG .null) ⟨#[]⟩ false d.1 ⟨_,_,rfl⟩ rfl (fun _=>by unfold AG;kernel_rfl)
  |flag x=>
   simp only[AP]at d;exact o (AG (.flag x)) ⟨#[]⟩ false d.1 ⟨_,_,rfl⟩ rfl (fun _=>by unfold AG;kernel_rfl)
  |num n=>
   simp only[AP]at d;exact o (AG (.num n)) ⟨#[]⟩ false d.1 ⟨_,_,rfl⟩ rfl (fun _=>by unfold AG;kernel_rfl)
  |text s=>
   simp only[AP]at d;exact o (AG (.text s)) s true d.1 ⟨_,_,rfl⟩ rfl (fun _=>by unfold AG;kernel_rfl)
  |list l=>
   simp only[AP]at d;obtain⟨b,sv,vs,q,rfl,r,f,y,_⟩:=d;obtain⟨a,c,rfl,_⟩:=f.form;simp only[Ab]at A j m;exact⟨_,_,VC b w,Ld l vs q b a c w (r.cell 0) f y m (by omega) j⟩
  |obj ks l=>
   simp only[AP]at d;obtain⟨b,sv,sk,vs,q,rfl,r,f,B,C,y,_⟩:=d;obtain⟨a,c,rfl,_⟩:=f.form;simp only[Ab]at A j m;have D:Ay ks<=2097152:=by have:=K.2.1;simp only[Ag,Sz.over]at this;omega
   exact⟨_,_,Se b w,NJ ks l vs q b a c sk w r f B y m (by omega) C D j⟩
theorem Ft{P:Program}{c:Array Oper}{rest:List Oper}{o:Oper}{a:Act}{Q:Exit->Act->Wl->Prop}{w:Wl}(k:o.guard=none)(r x:Operand)(b:String)(s:Array Ti)(m:o.op= .call {callee:= .invoke r b,args:=#[x],argTypes:=s})(v u:Vl)(p:a.eval r=v)(q:a.eval x=u)(f:FuncId)(args:Array Vl)(l:(callMethod v b #[u]).run P w= .ok (.enter f args) w)(R:Ending->Wl->Prop)(i:Cl P f args w R)(g:∀e w2,R e w2->∃u,e= .returned u/\wpList P c Q rest (a.put o.dst u) w2):wpList P c Q (o::rest) a w:=by
 refine wpList_plain k fun K d=> ?_
 unfold Oper.wp
 have j:(execOp a.eval o).run P w= .ok (.enter f args) w:=by
  simp[execOp,m,resolve,invoke,p,q,l]
 rw[j];refine i.mono fun e w2 h=> ?_
 obtain⟨u,rfl,n⟩:=g e w2 h;exact d _ _ n
theorem GZ(v sv:Vl)(w:Wl):(callMethod (.iface 183 (.agg #[v])) EB #[sv]).run prog w= .ok (.enter 322 #[.agg #[v],sv]) w:=by kernel_rfl
theorem TW(b:Nat)(sv:Vl)(w:Wl):(callMethod (.iface 104 (.pointer (some ⟨b,0,none⟩))) EB #[sv]).run prog w= .ok (.enter 304 #[.pointer (some ⟨b,0,none⟩),sv]) w:=by kernel_rfl
theorem PH(b:Nat)(sv:Vl)(w:Wl):(callMethod (.iface 175 (.pointer (some ⟨b,0,none⟩))) EB #[sv]).run prog w= .ok (.enter 317 #[.pointer (some ⟨b,0,none⟩),sv]) w:=by kernel_rfl
def LQ(v:Vl)(t:Tr)(bs:List Nat)(w:Wl):Prop:=∀(G:Nat->Prop) (sv:Vl) (n:Nat) (l:List Ap) (xs:List Vl),Nj bs G sv n l xs w->n+(Ag t).nodes<=4294967296->
 ∃f args,(callMethod v EB #[sv]).run prog w= .ok (.enter f args) w/\Cl prog f args w (CJ G sv n (Ag t).nodes (l++MW t) w)
theorem VK{l:List Tr}{k:Nat}{u:Tr}(h:l[k]? =some u):KH (l.take (k+1))=KH (l.take k)++MW u:=by
 unfold KH MW;rw[EA h,List.map_append]
theorem NO{l:List Tr}{k:Nat}{u:Tr}(h:l[k]? =some u):(Bk (l.take k)).nodes+(Ag u).nodes<=(Bk l).nodes:=by
 have a:=M4 l (k+1);rw[BM h]at a;exact a
theorem I4(l:List Tr)(vs:List Vl)(M bs:List Nat)(b:Nat)(a:Option Addr)(c:Nat)(w:Wl)(hb:w.cell? ⟨b,0,none⟩=some (.slice a vs.length c))(R:AK w (.slice a vs.length c) 95 vs)(A:PsAt w l vs M)(S:∀x,x∈b::((Vl.slice a vs.length c).ownBlock.toList++M)->x∈bs)(s:∀x,x∈bs->x<w.heap.size)(hl:l.length<=65536)(G:Nat->Prop)(sv:Vl)(n:Nat)(L:List Ap)(xs:List Vl)(V:Nj bs G sv n L xs w)(hn:n+(Bk l).nodes<=4294967296)(K:∀u v h w',u∈l->AP w' u v h->(∀x,x∈h->x<w'.heap.size)->LQ v u h w'):
  Cl prog 306 #[.pointer (some ⟨b,0,none⟩),sv] w (CJ G sv n (Bk l).nodes (L++KH l) w):=by
 have ak:=A.length;have lb:=World.block_lt_of_cell? w _ hb;have J:=hZ R;have HP:=hZ A;have HI:=hZ K;have q:=hZ V;have I:=hZ S;have y:=hZ s;clear R A K V S s;go_enter func306,ntmps306
 go_wp2
 go_loopw [1,12] (fun d F wr=>∃(k:Nat) (o:Vl),k<=vs.length/\o=d/\F= .int .i64 k/\CJ G sv n (Bk (l.take k)).nodes (L++KH (l.take k)) w (.returned o) wr)
  (fun _ F _=>vs.length-(intOf F).toNat)
 case atStart=>exact⟨0,sv,by omega,rfl,rfl,by have:=CJ.same q.o cR;simpa[Bk,KH,BI]using this⟩
 case round=>
  obtain⟨k,o,hk,rfl,rfl,B⟩:=hrel;obtain⟨v0,G',al,z,W,N,O,P,Q⟩:=CJ.inn q.o y.o B
  injection z with z
  subst z;have HS:=hZ B;have aa:=hZ W;have p:=hZ N;have H4:=hZ O;have H5:=hZ P;have H6:=hZ Q;clear B W N O P Q;by_cases s:k<vs.length
  .have D:k<l.length:=by omega
   obtain⟨u,i⟩:∃u,l[k]? =some u:=⟨_,Q9 D⟩
   obtain⟨v,h,Z,X,T⟩:=HP.o.get i
   obtain⟨g,rfl⟩:∃g,a=some ⟨g,0,none⟩:=by
    obtain⟨a',c',e,h⟩:=J.o.form
    injection e with e1
    subst e1;exact h (by intro e;subst e;simp at s)
   have C:g∈bs:=I.o g (by simp[Vl.ownBlock]);have ai:wr.cell? ⟨g,k,none⟩=some v:=(p.o.cell (y.o g C) (fun t=>(q.o.own g (by simpa using t)).1 C)).trans (J.o.cell rfl k v Z);have r:∀x,x∈h->x∈bs:=fun x m=>I.o x (by simp[T x m])
   have E:=X.chg p.o (fun x m ah=>(q.o.own x (by simpa using m)).1 (r x ah));have Y:=Qi i;obtain⟨ti,x,rfl⟩:=E.iface;have ag:=NO i;obtain⟨f,args,t,U⟩:=HI.o u _ h wr Y E (fun x m=>Q6 (y.o x (r x m)) p.o.size) G' o _ _ _ (aa.o.sub r) (by omega)
   have af:Cl prog f args wr fun e H=>∃d,e= .returned d/\CJ G sv n (Bk (l.take (k+1))).nodes (L++KH (l.take (k+1))) w (.returned d) H:=by
    refine U.mono fun e H j=> ?_
    have ae:=CJ.step H5.o H6.o p.o H4.o j;rw[BM i,VK i,<-List.append_assoc];obtain⟨d,G1,am,he,aj⟩:=j;subst he;exact⟨d,rfl,ae⟩
   have ab:=hZ t;clear t Z X E i Y ag r T C U
   go_wp2_with(first
    |(refine Ft rfl _ _ _ _ rfl (.iface ti x) o (by rfl) (by rfl) f args ab.o _ af ?_;rintro e H ⟨d,rfl,j⟩;refine⟨_,rfl, ?_⟩;have ad:=hZ j;clear j))
   go_roundw
   case rel=>exact⟨k+1,_,by omega,rfl,by go_num,ad.o⟩
   case measure=>simp[intOf];omega
  .go_wp2
   go_ret
   have D:l.take k=l:=Qn (by omega);have:=HS.o;rwa[D]at this
structure I9(bs:List Nat)(G:Nat->Prop)(sv:Vl)(n:Nat)(L:List Ap)(w:Wl)(v1:Vl)(w1:Wl):Prop where
 ex:∃G1 xs1,Nj bs G1 v1 n L xs1 w1/\(∀b,G b->G1 b)/\(∀b,G1 b->b<w.heap.size->G b)
 chg:Chg w w1 sv.ownBlock.toList
 own:∀g,v1.ownBlock=some g->sv.ownBlock=some g\/w.heap.size<=g
theorem I9.of{bs:List Nat}{G:Nat->Prop}{sv:Vl}{n m:Nat}{l f:List Ap}{xs:List Vl}{w i w':Wl}{e:Ending}(t:Nj bs G sv n l xs w)(s:∀b,b∈bs->b<w.heap.size)(a:Chg w i [])(h:CJ G sv n m f i e w'):
  ∃c,e= .returned c/\I9 bs G sv (n+m) f w c w':=by
 obtain⟨c,j,x,rfl,k,o,p,q,r⟩:=CJ.inn (t.kept a) (fun b v=>Q6 (s b v) a.size) h;refine⟨c,rfl,⟨⟨j,x,k,q,fun b d u=>r b d (Q6 u a.size)⟩,(a.none _).trans o,fun g d=> ?_⟩⟩
 rcases p g d with h|h
 .exact .inl h
 .exact .inr (Q7 a.size h)
theorem I9.kept{bs:List Nat}{G:Nat->Prop}{sv:Vl}{n:Nat}{L:List Ap}{w c w2:Wl}{b:Vl}(h:I9 bs G sv n L w b c)(a:Chg c w2 []):I9 bs G sv n L w b w2:=by
 obtain⟨⟨d,k,e,f,g⟩,i,j⟩:=h;exact⟨⟨d,k,e.kept a,f,g⟩,i.trans (a.none _),j⟩
theorem I9.slots{bs:List Nat}{G:Nat->Prop}{sv:Vl}{n:Nat}{L:List Ap}{w e:Wl}{b:Vl}(h:I9 bs G sv n L w b e):∃a c,b= .slice a n c:=by
 obtain⟨⟨f,g,d,_⟩,_⟩:=h;exact d.lst.slots
theorem XQ(l:List Tr):MW (.list l)=KH l++[(Aa (.list l)).toI]:=by unfold MW KH;simp[Ai]
theorem YT(ks:List BY)(l:List Tr):MW (.obj ks l)=KH l++[(Aa (.obj ks l)).toI]:=by unfold MW KH;simp[Ai]
theorem Ff(w:Wl)(cs:List Vl)(T:Ti):∀j v,cs[j]? =some v->(w.alloc (.cells cs.toArray T)).cell? ⟨w.heap.size,j,none⟩=some v:=fun j v a=>((Ac.new w cs T).cell j).trans a
theorem I9.put{bs:List Nat}{G:Nat->Prop}{sv:Vl}{n m:Nat}{L:List Ap}{w c k:Wl}{e:Option Addr}{c1:Nat}{s:Ap}{sk:Vl}{g q:Nat}(h:I9 bs G sv (n+m) L w (.slice e (n+m) c1) c)(a:∀b,b∈bs->b<w.heap.size){y:List Vl}{d G2:Nat->Prop}(A:Nj bs d (.slice e (n+m) c1) (n+m) L y c)(B:∀b,G b->d b)(C:∀b,d b->b<w.heap.size->G b)(F:Ba k (.slice (some ⟨g,0,none⟩) (n+m+1) q) 72 6 (n+m+1) (y++AI s sk))(l:Chg c k (Vl.slice e (n+m) c1).ownBlock.toList)(u:(Vl.slice e (n+m) c1).ownBlock=some g\/c.heap.size<=g)(J:As c sk 1 s.keys.length (Ad s.keys))(v:SE G2 sk)(r:∀b,d b->G2 b)(E:∀b,G2 b->b<w.heap.size->d b)(p:∀b,G2 b->b<c.heap.size)(x:∀g,(Vl.slice e (n+m) c1).ownBlock=some g->¬G2 g):
  CJ G sv n (m+1) (L++[s]) w (.returned (.slice (some ⟨g,0,none⟩) (n+m+1) q)) k:=by
 have K:=h.chg.size;have t:BZ G2 c k:=l.keepsF p (fun b a H=>x b (by simpa using a) H);refine⟨_,G2,_,rfl,by rw[<-Nat.add_assoc];exact F,((A.at_.kept (fun _ _ _=>rfl) r).kept t (fun _ h=>h)).append (KS s sk (J.keptF v t) v),h.chg.step l fun j I o=> ?_, ?_,fun b a=>r b (B b a),fun b a o=>C b (E b a o) o,fun b a=>Q6 (p b a) l.size, ?_⟩
 .rcases h.own j (by simpa using I)with h|h
  .simpa using h
  .omega
 .intro z i
  simp[Vl.ownBlock]at i;subst i
  rcases u with f|f
  .exact h.own _ f
  .exact .inr (by omega)
 .intro z i
  simp[Vl.ownBlock]at i;subst i
  rcases u with f|f
  .exact x _ f
  .intro D;have:=p _ D;omega
theorem Pm(l:List Tr)(vs:List Vl)(z:List Nat)(b:Nat)(a:Option Addr)(c:Nat)(w:Wl)(U:Ac w b [.slice a vs.length c] 107)(hL:AK w (.slice a vs.length c) 95 vs)(W:PsAt w l vs z)(hl:l.length<=65536)(G:Nat->Prop)(sv:Vl)(n:Nat)(L:List Ap)(xs:List Vl)(s:Nj (b::((Vl.slice a vs.length c).ownBlock.toList++z)) G sv n L xs w)(hn:n+(Ag (.list l)).nodes<=4294967296)(D:∀x,x∈b::((Vl.slice a vs.length c).ownBlock.toList++z)->x<w.heap.size)(IH:∀u v T w',u∈l->AP w' u v T->(∀x,x∈T->x<w'.heap.size)->LQ v u T w'):
  Cl prog 304 #[.pointer (some ⟨b,0,none⟩),sv] w (CJ G sv n (Ag (.list l)).nodes (L++MW (.list l)) w):=by
 have al:=W.length;have ak:(Ag (.list l)).nodes=(Bk l).nodes+1:=by simp only[Ag,Sz.over];omega
 rw[ak]at hn|-;obtain⟨y,P⟩:∃y,y=b::((Vl.slice a vs.length c).ownBlock.toList++z):=⟨_,rfl⟩
 rw[<-P]at s D;have Q:w.cell? ⟨b,0,none⟩=some (.slice a vs.length c):=U.cell 0;have lb:=U.lt;have X:b∈y:=by rw[P];simp
 have ai:b∉sv.ownBlock.toList:=fun d=>(s.own b (by simpa using d)).1 X
 have am:w.heap.size∉sv.ownBlock.toList:=fun d=>by have:=s.lst.lt (by simpa using d);omega
 have S:Hid (∀J,Chg w J []->Cl prog 306 #[.pointer (some ⟨b,0,none⟩),sv] J fun e f=>∃H,e= .returned H/\I9 y G sv (n+(Bk l).nodes) (L++KH l) w H f/\Chg J f sv.ownBlock.toList):=hZ fun J t=>
  (I4 l vs z y b a c J (t.keeps Q) (hL.kept t) (W.chg t (by simp)) (fun x Z=>by rw[P];exact Z) (fun x Z=>Q6 (D x Z) t.size) hl G sv n L xs (s.kept t) (by omega) IH).mono fun e f h=>by
   obtain⟨H,he,d⟩:=I9.of s D t h;obtain⟨_,_,_,_,_,_,hc,_⟩:=h;exact⟨H,he,d,hc⟩
 have an:=hZ ai;have au:=hZ am;have ab:=hZ X;have ap:=hZ D;have m:Hid ((n+(Bk l).nodes+1)*72<=140737488355328/\n+(Bk l).nodes<=140737488355328):=hZ ⟨by omega,by omega⟩;have ar:=hZ al;clear U hL W s D IH ak X ai am P hn al;obtain⟨M,hM⟩:∃M,M=(Bk l).nodes:=⟨_,rfl⟩
 rw[<-hM]at S m|-;obtain⟨N,V⟩:∃N,N=n+M:=⟨_,rfl⟩
 rw[<-V]at S m;have aq:=hZ V;clear V hM;go_enter func304,ntmps304
 go_wp2_with fail
 go_region_held3(fun w'=>w'.cell? ⟨b,0,none⟩=some (.slice a vs.length c)) (first|exact Q|exact r|exact ah|exact(fun h:Chg f _ []=>h.keeps r) (by exact cg cR)|exact(fun h:Chg w _ []=>h.keeps Q) (by exact cg cR))
  (first
   |(go_at_call 306;refine(S.o _ (by exact cg cR)).mono ?_;rintro e f ⟨H,rfl,d,aj⟩;obtain⟨q,c1,rfl⟩:=d.slots;have r:=(d.chg.cell lb an.o).trans Q;have R:=hZ d;have ao:=hZ aj;clear d aj)
   |(obtain⟨G1,aa,k,E,F⟩:=R.o.ex;(refine Bw rfl _ _ _ rfl 72 Iq 6 72 (by decide) underlying22 DM rfl (.slice q N c1) N aa (by rfl) (by exact k.lst.kept (bs:=[]) (by exact cg cR) (by simp)) f.heap.size (AI ⟨5,false,0,Dz,vs.length,[]⟩ (.slice none 0 0)) (by rfl) (by rfl) (by exact Ff _ _ _) (C0 _ _ _ _) m.o.1 m.o.2 ?_);intro g av I C A B;have ae:=hZ C;have K:Hid (Chg f I (Vl.slice q N c1).ownBlock.toList):=hZ ((((Chg.refl f []).alloc _).none _).trans A);have ad:Hid ((Vl.slice q N c1).ownBlock=some g\/f.heap.size<=g):=hZ (B.imp id (fun h=>by rw[World.size_alloc]at h;omega));have O:=hZ k;have af:=hZ E;have ag:=hZ F;have ah:I.cell? ⟨b,0,none⟩=some (.slice a vs.length c):=(K.o.cell (World.block_lt_of_cell? f _ r) (fun d=>(k.own b (by simpa using d)).1 ab.o)).trans r;clear C A B k E F)
   |(obtain⟨G1,aa,k,E,F⟩:=R.o.ex;(refine Bw rfl _ _ _ rfl 72 Iq 6 72 (by decide) underlying22 DM rfl (.slice q N c1) N aa (by rfl) (by exact k.lst.kept (bs:=[]) (by exact cg cR) (by simp)) w.heap.size (AI ⟨5,false,0,Dz,vs.length,[]⟩ (.slice none 0 0)) (by rfl) (by rfl) (by intro j v Y;exact(ao.o.cell (p:=⟨w.heap.size,j,none⟩) (by simp) au.o).trans (Ff _ _ _ j v Y)) (C0 _ _ _ _) m.o.1 m.o.2 ?_);intro g av I C A B;have ae:=hZ C;have K:Hid (Chg f I (Vl.slice q N c1).ownBlock.toList):=hZ A;have ad:Hid ((Vl.slice q N c1).ownBlock=some g\/f.heap.size<=g):=hZ (B.imp id (fun h=>Nat.le_of_eq h.symm));have O:=hZ k;have af:=hZ E;have ag:=hZ F;have ah:I.cell? ⟨b,0,none⟩=some (.slice a vs.length c):=(K.o.cell (World.block_lt_of_cell? f _ r) (fun d=>(k.own b (by simpa using d)).1 ab.o)).trans r;clear C A B k E F))
 all_goals
  go_wp2_with fail
  go_ret
  have e:=aq.o;subst e;rw[XQ,<-List.append_assoc];have hs:(Aa (.list l)).toI=⟨5,false,0,Dz,vs.length,[]⟩:=by rw[ar.o];rfl
  rw[hs];exact I9.put R.o ap.o O.o af.o ag.o ae.o K.o ad.o ⟨none,0,rfl,Q8 _,rfl,fun i v Y=>by simp[Ad]at Y⟩ (fun b o n c e=>by cases e) (fun _ h=>h) (fun _ h _=>h) O.o.ltG (fun g hg=>(O.o.own g hg).2)
def KP(ks:List BY)(w:Wl)(e:Ending)(w':Wl):Prop:=∃sk,e= .returned sk/\AK w' sk 9 (Ad ks)/\BP w sk.ownBlock.toList/\Chg w w' []
theorem M0{ks:List BY}{i:Nat}{s:BY}(h:ks[i]? =some s):Ad (ks.take i)++[.string s]=Ad (ks.take (i+1)):=by
 rw[List.take_add_one,h];simp[Ad]
theorem Rq(F:Nat->Prop)(ks:List BY)(l:List Tr)(vs:List Vl)(N:Option Addr)(c:Nat)(w:Wl)(J:ks.length=l.length)(H:Dc w F l vs)(K:LP w F N (Kp ks vs))(hn:l.length<=65536):
  Cl prog 127 #[.slice N l.length c] w (KP ks w):=by
 have S:=hZ K;have p:=hZ J;have U:=hZ H;clear K J H;go_enter func127,ntmps127
 go_wp2
 go_loopw [3,8] (fun Z z wr=>∃(i:Nat) (n:Vl),i<=l.length/\z= .int .i64 i/\n=Z/\AK wr n 9 (Ad (ks.take i))/\BP w n.ownBlock.toList/\Chg w wr []) (fun _ z _=>l.length-(intOf z).toNat)
 case atStart=>exact⟨0,_,by omega,rfl,rfl,AK.nil _ _,BP.nil _,by exact cg cR⟩
 case round=>
  obtain⟨i,n,hi,rfl,rfl,a,m,d⟩:=hrel;by_cases X:i<l.length
  .obtain⟨s,y⟩:∃s,ks[i]? =some s:=⟨_,Q9 (by have:=p.o;omega)⟩
   obtain⟨v,L,M⟩:=U.o.get i _ (Q9 X);obtain⟨Y,x,rfl⟩:=M.iface;obtain⟨k,C⟩:=Mi y L
   rcases S.o with V|⟨b,o,rfl,ab,t⟩
   .rw[V]at k;simp at k
   have r:o+i*2=o+2*i:=by omega
   have c0:wr.cell? ⟨b,o+i*2,none⟩=some (.string s):=by rw[r];exact d.keeps (t _ _ k)
   have c1:wr.cell? ⟨b,o+i*2+1,none⟩=some (.iface Y x):=by rw[r];exact d.keeps (t _ _ C)
   obtain⟨e,f,rfl,_⟩:=a.form;have u:(Ad (ks.take i)).length=i:=by rw[Ao,Ql];have:=p.o;omega
   rw[u]at a m|-;have O:=hZ a;have A:=hZ m;have B:=hZ d;have T:=hZ y;have q:=hZ u;clear a m d y L M k C t u r
   go_wp2_with(first
    |(refine AM rfl _ _ _ rfl 9 (.string ⟨#[]⟩) 16 underlying27 Cf rfl (.slice e i f) (Ad (ks.take i)) (by rfl) (by exact O.o.kept (bs:=[]) (by exact cg cR) (by simp)) (wr.heap.size+1) (.string s) (by rfl) (by exact Bx (by simp) _ _) rfl (by rw[q.o];omega) (by rw[q.o];omega) ?_;rw[q.o];intro g aa w7 G D E;have R:=hZ G;have P:Hid (Chg wr w7 (Vl.slice e i f).ownBlock.toList):=hZ (ct ((Chg.refl wr []).none _) D);have Q:Hid ((Vl.slice e i f).ownBlock=some g\/wr.heap.size<=g):=hZ (E.imp id (fun h=>by simp at h;omega));clear G D E))
   go_roundw
   case rel=>
    refine⟨i+1,_,by omega,by go_num,rfl,by rw[<-M0 T.o];exact R.o,⟨by simp[Vl.ownBlock],fun b I=> ?_⟩,B.o.step P.o fun j W hl=> ?_⟩
    .simp[Vl.ownBlock]at I
     subst I
     rcases Q.o with h|h
     .exact A.o.ge _ (by simp[h])
     .have:=B.o.size;omega
    .have:=A.o.ge j W;omega
   case measure=>simp[intOf];omega
  .have ad:i=l.length:=by omega
   rw[Qn (by have:=p.o;omega)]at a;obtain⟨e,f,rfl,_⟩:=a.form;go_wp2
   go_ret
   exact⟨_,rfl,a,m,d⟩
end
end Go.Proofs.YtkfnkppdhcaeoaaGreatDoor

/- WALKS: the program's layer 10: a value's steps. WALKS: a tree's steps. -/
import Derived.Test.YtfdhgakalojahaaGreatDoorM38
import Derived.Test.YtfdhgakalojahaaGreatDoorM07
import Derived.Test.YtfdhgakalojahaaGreatDoorM06
set_option linter.unusedSimpArgs false
set_option linter.unusedVariables false
set_option linter.unnecessarySimpa false
set_option linter.unusedSectionVars false
namespace Go.Proofs.YtfdhgakalojahaaGreatDoor
open Go Go.RowKit Tree

def zStep : Value := .agg #[.int .i64 0, .bool false, .int .u64 0, .string ⟨#[]⟩, .int .i64 0, .slice none 0 0]
theorem info_step : (Tryz.prog.info? 48).map (fun i => (i.zero, i.size, i.bytes)) = some (some zStep, 6, 72) := by kernel_rfl

/-- steps put behind others -/
def StepsPost (F G : Nat → Prop) (sv : Value) (n : Nat) (l : List StepP) (t : Tr) (w : World) (e : Ending) (w' : World) : Prop :=
  ∃ sv' G' xs', e = .returned sv' ∧ LstK w' sv' 48 6 (n + (szT t).nodes) xs' ∧ StepsAt w' G' (l ++ stepsT t) xs' ∧ Chg w w' sv.ownBlock.toList ∧
    (∀ g, sv'.ownBlock = some g → sv.ownBlock = some g ∨ w.heap.size ≤ g) ∧ (∀ b, G b → G' b) ∧ (∀ b, G' b → b < w.heap.size → G b) ∧ (∀ b, G' b → b < w'.heap.size) ∧ (∀ g, sv'.ownBlock = some g → ¬ G' g)

structure StepsIn (F G : Nat → Prop) (sv : Value) (n : Nat) (l : List StepP) (xs : List Value) (w : World) : Prop where
  ltF : ∀ b, F b → b < w.heap.size
  lst : LstK w sv 48 6 n xs
  at_ : StepsAt w G l xs
  own : ∀ g, sv.ownBlock = some g → ¬ F g ∧ ¬ G g
  ltG : ∀ b, G b → b < w.heap.size

theorem StepsIn.kept {F G : Nat → Prop} {sv : Value} {n : Nat} {l : List StepP} {xs : List Value} {w w' : World} (h : StepsIn F G sv n l xs w) (hg : Chg w w' []) : StepsIn F G sv n l xs w' :=
  ⟨fun b hb => Nat.lt_of_lt_of_le (h.ltF b hb) hg.size, h.lst.kept hg (by simp), StepsAt.kept (hg.keepsF h.ltG (by simp)) (fun _ h => h) _ _ h.at_, h.own, fun b hb => Nat.lt_of_lt_of_le (h.ltG b hb) hg.size⟩

theorem nodes_items (t : Tr) : (szT t).nodes = (szL (itemsT t)).nodes + 1 := by
  rw [← stepsT_length, stepsT_eq, ← stepsL_length]; simp

theorem take_nodes (l : List Tr) (i : Nat) : (szL (l.take i)).nodes ≤ (szL l).nodes := by
  have h := congrArg (fun s => (szL s).nodes) (List.take_append_drop i l)
  simp only [szL_append, Sz.add] at h
  omega

/-- how the loop over what is within stands behind i of them -/
def StepsLoop (G : Nat → Prop) (sv : Value) (n : Nat) (l : List StepP) (ts : List Tr) (w : World) (i : Nat) (v0 : Value) (wr : World) : Prop :=
  ∃ G' xs', LstK wr v0 48 6 (n + (szL (ts.take i)).nodes) xs' ∧ StepsAt wr G' (l ++ stepsL (ts.take i)) xs' ∧ Chg w wr sv.ownBlock.toList ∧
    (∀ g, v0.ownBlock = some g → sv.ownBlock = some g ∨ w.heap.size ≤ g) ∧ (∀ b, G b → G' b) ∧ (∀ b, G' b → b < w.heap.size → G b) ∧ (∀ b, G' b → b < wr.heap.size) ∧ (∀ g, v0.ownBlock = some g → ¬ G' g)

theorem StepsLoop.start {F G : Nat → Prop} {sv : Value} {n : Nat} {l : List StepP} {xs : List Value} {ts : List Tr} {w : World} (h : StepsIn F G sv n l xs w) : StepsLoop G sv n l ts w 0 sv w :=
  ⟨G, xs, by simpa [szL] using h.lst, by simpa [stepsL] using h.at_, Chg.none (Chg.refl _ _) _, fun g hg => .inl hg, fun _ h => h, fun _ h _ => h, h.ltG, fun g hg => (h.own g hg).2⟩

theorem StepsLoop.inn {F G : Nat → Prop} {sv v0 : Value} {n i : Nat} {l : List StepP} {xs : List Value} {ts : List Tr} {w wr : World} (hin : StepsIn F G sv n l xs w) (h : StepsLoop G sv n l ts w i v0 wr) :
    ∃ G' xs', StepsIn F G' v0 (n + (szL (ts.take i)).nodes) (l ++ stepsL (ts.take i)) xs' wr ∧ (∀ b, G b → G' b) ∧ (∀ b, G' b → b < w.heap.size → G b) ∧ Chg w wr sv.ownBlock.toList ∧ (∀ g, v0.ownBlock = some g → sv.ownBlock = some g ∨ w.heap.size ≤ g) := by
  obtain ⟨G', xs', h1, h2, h3, h4, h5, h6, h7, h8⟩ := h
  refine ⟨G', xs', ⟨fun b hb => Nat.lt_of_lt_of_le (hin.ltF b hb) h3.size, h1, h2, fun g hg => ⟨fun hF => ?_, h8 g hg⟩, h7⟩, h5, h6, h3, h4⟩
  rcases h4 g hg with h | h
  · exact (hin.own g h).1 hF
  · have := hin.ltF g hF; omega

theorem StepsLoop.next {F G G' : Nat → Prop} {sv v0 : Value} {n i : Nat} {l : List StepP} {xs : List Value} {ts : List Tr} {w wr w' : World} {u : Tr} {e : Ending} (hin : StepsIn F G sv n l xs w)
    (hG : ∀ b, G b → G' b) (hG' : ∀ b, G' b → b < w.heap.size → G b) (hc : Chg w wr sv.ownBlock.toList) (ho : ∀ g, v0.ownBlock = some g → sv.ownBlock = some g ∨ w.heap.size ≤ g)
    (hu : ts[i]? = some u) (h : StepsPost F G' v0 (n + (szL (ts.take i)).nodes) (l ++ stepsL (ts.take i)) u wr e w') : ∃ v1, e = .returned v1 ∧ StepsLoop G sv n l ts w (i + 1) v1 w' := by
  obtain ⟨v1, G2, xs2, rfl, k1, k2, k3, k4, k5, k6, k7, k8⟩ := h
  refine ⟨v1, rfl, G2, xs2, ?_, ?_, ?_, ?_, fun b hb => k5 b (hG b hb), fun b hb hl => hG' b (k6 b hb (Nat.lt_of_lt_of_le hl hc.size)) hl, k7, k8⟩
  · rw [szL_take_succ hu]
    have e : n + ((szL (ts.take i)).add (szT u)).nodes = n + (szL (ts.take i)).nodes + (szT u).nodes := by unfold Sz.add; simp [Nat.add_assoc]
    rw [e]; exact k1
  · rw [stepsL_take_succ hu, ← List.append_assoc]; exact k2
  · refine hc.step k3 fun j hj hl => ?_
    rcases ho j (by simpa using hj) with h | h
    · simpa using h
    · omega
  · intro g hg
    rcases k4 g hg with h | h
    · exact ho g h
    · exact .inr (Nat.le_trans hc.size h)

set_option maxRecDepth 100000 in
set_option maxHeartbeats 32000000 in
theorem node_steps : ∀ (k : Nat) (t : Tr) (F G : Nat → Prop) (v sv : Value) (n : Nat) (l : List StepP) (xs : List Value) (w : World), (szT t).nodes ≤ k → n + (szT t).nodes ≤ 4294967296 → ItemAt w F t v → StepsIn F G sv n l xs w →
    Calls Tryz.prog 99 #[sv, v] w (StepsPost F G sv n l t w) := by
  intro k
  induction k with
  | zero => intro t _ _ _ _ _ _ _ _ h; have := nodes_pos t; omega
  | succ k ih =>
    intro t0 F G v sv n l xs w hk hnk hit0 hin
    have IH := Lib.hid ih
    have HIN := Lib.hid hin
    have HIT := Lib.hid hit0
    obtain ⟨f, args, hm, hc⟩ := sort_any t0 v hit0
    have HM := Lib.hid hm
    have HC := Lib.hid hc
    have HK := Lib.hid hk
    obtain ⟨t, ht⟩ : ∃ t, t = t0 := ⟨_, rfl⟩
    have hit : ItemAt w F t v := ht ▸ hit0
    have HT := Lib.hid ht
    clear ih hin hm hc hk hit0 ht
    cases t
    case' null =>
      simp only [ItemAt] at hit
      subst hit
      have a0 : ∀ (w : World), (Instr.typeAssert (.iface 141 (.agg #[])) 72 142 true).run Tryz.prog w = .ok (.tuple #[.bool false, .bool false]) w := fun _ => by kernel_rfl
      have a1 : ∀ (w : World), (Instr.typeAssert (.iface 141 (.agg #[])) 72 146 true).run Tryz.prog w = .ok (.tuple #[.float .f64 0, .bool false]) w := fun _ => by kernel_rfl
      have a2 : ∀ (w : World), (Instr.typeAssert (.iface 141 (.agg #[])) 72 120 true).run Tryz.prog w = .ok (.tuple #[.string ⟨#[]⟩, .bool false]) w := fun _ => by kernel_rfl
      have a3 : ∀ (w : World), (Instr.typeAssert (.iface 141 (.agg #[])) 72 149 true).run Tryz.prog w = .ok (.tuple #[.pointer none, .bool false]) w := fun _ => by kernel_rfl
      have a4 : ∀ (w : World), (Instr.typeAssert (.iface 141 (.agg #[])) 72 174 true).run Tryz.prog w = .ok (.tuple #[.pointer none, .bool false]) w := fun _ => by kernel_rfl
      go_enter Tryz.func99, Tryz.ntmps99
      go_upto_region 18 with (first | (refine wpList_invoke rfl _ _ _ rfl _ rfl f args HM.out _ HC.out ?_; rintro e w1 ⟨rfl, hg1⟩; refine ⟨_, rfl, ?_⟩; rw [show sortT t0 = 1 from by rw [← HT.out]; rfl]))
      obtain ⟨X, hX⟩ : ∃ X, X = w1.heap.size := ⟨_, rfl⟩
      obtain ⟨w3, hw3⟩ : ∃ x, x = w1.alloc (.cells (stepC (headStep .null) (.slice none 0 0)).toArray 48) := ⟨_, rfl⟩
      have HX : Hid (Blk w3 X (stepC (headStep t0) (.slice none 0 0)) 48) := by rw [hw3, hX, ← HT.out]; exact Lib.hid (Blk.new _ _ _)
      have HG3 : Hid (Chg w w3 []) := by rw [hw3]; exact Lib.hid (hg1.alloc _)
      have hXw : w.heap.size ≤ X := by rw [hX]; exact hg1.size
      change Code.wp _ _ _ _ (w1.alloc (.cells (stepC (headStep .null) (.slice none 0 0)).toArray 48))
      rw [← hw3, ← hX]
      obtain ⟨ska, skn, skc, hsk⟩ : ∃ ska skn skc, Value.slice ska skn skc = Value.slice none 0 0 := ⟨_, _, _, rfl⟩
      rw [← hsk] at HX
      have HSK : Hid (∃ G2 : Nat → Prop, StepsIn F G2 sv n l xs w3 ∧ RowAt w3 G2 (.slice ska skn skc) (strs (headStep t0).keys) ∧ (∀ b, G b → G2 b) ∧ (∀ b, G2 b → b < w.heap.size → G b) ∧ ¬ G2 X) := by
        refine Lib.hid ⟨G, HIN.out.kept HG3.out, ?_, fun _ h => h, fun _ h _ => h, fun h => by have := HIN.out.ltG X h; omega⟩
        rw [hsk, ← HT.out]
        exact RowAt.empty _ _
      clear hsk hw3 hX hg1
    case' flag b =>
      simp only [ItemAt] at hit
      subst hit
      have a0 : ∀ (w : World), (Instr.typeAssert (.iface 142 (.bool b)) 72 142 true).run Tryz.prog w = .ok (.tuple #[.bool b, .bool true]) w := fun _ => by kernel_rfl
      go_enter Tryz.func99, Tryz.ntmps99
      go_upto_region 18 with (first | (refine wpList_invoke rfl _ _ _ rfl _ rfl f args HM.out _ HC.out ?_; rintro e w1 ⟨rfl, hg1⟩; refine ⟨_, rfl, ?_⟩; rw [show sortT t0 = 2 from by rw [← HT.out]; rfl]))
      obtain ⟨X, hX⟩ : ∃ X, X = w1.heap.size := ⟨_, rfl⟩
      obtain ⟨w3, hw3⟩ : ∃ x, x = w1.alloc (.cells (stepC (headStep (.flag b)) (.slice none 0 0)).toArray 48) := ⟨_, rfl⟩
      have HX : Hid (Blk w3 X (stepC (headStep t0) (.slice none 0 0)) 48) := by rw [hw3, hX, ← HT.out]; exact Lib.hid (Blk.new _ _ _)
      have HG3 : Hid (Chg w w3 []) := by rw [hw3]; exact Lib.hid (hg1.alloc _)
      have hXw : w.heap.size ≤ X := by rw [hX]; exact hg1.size
      change Code.wp _ _ _ _ (w1.alloc (.cells (stepC (headStep (.flag b)) (.slice none 0 0)).toArray 48))
      rw [← hw3, ← hX]
      obtain ⟨ska, skn, skc, hsk⟩ : ∃ ska skn skc, Value.slice ska skn skc = Value.slice none 0 0 := ⟨_, _, _, rfl⟩
      rw [← hsk] at HX
      have HSK : Hid (∃ G2 : Nat → Prop, StepsIn F G2 sv n l xs w3 ∧ RowAt w3 G2 (.slice ska skn skc) (strs (headStep t0).keys) ∧ (∀ b, G b → G2 b) ∧ (∀ b, G2 b → b < w.heap.size → G b) ∧ ¬ G2 X) := by
        refine Lib.hid ⟨G, HIN.out.kept HG3.out, ?_, fun _ h => h, fun _ h _ => h, fun h => by have := HIN.out.ltG X h; omega⟩
        rw [hsk, ← HT.out]
        exact RowAt.empty _ _
      clear hsk hw3 hX hg1
    case' num b =>
      simp only [ItemAt] at hit
      subst hit
      have a0 : ∀ (w : World), (Instr.typeAssert (.iface 146 (.float .f64 b)) 72 142 true).run Tryz.prog w = .ok (.tuple #[.bool false, .bool false]) w := fun _ => by kernel_rfl
      have a1 : ∀ (w : World), (Instr.typeAssert (.iface 146 (.float .f64 b)) 72 146 true).run Tryz.prog w = .ok (.tuple #[.float .f64 b, .bool true]) w := fun _ => by kernel_rfl
      have htb := run_tobits
      go_enter Tryz.func99, Tryz.ntmps99
      go_upto_region 18 with (first | (refine wpList_invoke rfl _ _ _ rfl _ rfl f args HM.out _ HC.out ?_; rintro e w1 ⟨rfl, hg1⟩; refine ⟨_, rfl, ?_⟩; rw [show sortT t0 = 3 from by rw [← HT.out]; rfl]))
      obtain ⟨X, hX⟩ : ∃ X, X = w1.heap.size := ⟨_, rfl⟩
      obtain ⟨w3, hw3⟩ : ∃ x, x = w1.alloc (.cells (stepC (headStep (.num b)) (.slice none 0 0)).toArray 48) := ⟨_, rfl⟩
      have HX : Hid (Blk w3 X (stepC (headStep t0) (.slice none 0 0)) 48) := by rw [hw3, hX, ← HT.out]; exact Lib.hid (Blk.new _ _ _)
      have HG3 : Hid (Chg w w3 []) := by rw [hw3]; exact Lib.hid (hg1.alloc _)
      have hXw : w.heap.size ≤ X := by rw [hX]; exact hg1.size
      change Code.wp _ _ _ _ (w1.alloc (.cells (stepC (headStep (.num b)) (.slice none 0 0)).toArray 48))
      rw [← hw3, ← hX]
      obtain ⟨ska, skn, skc, hsk⟩ : ∃ ska skn skc, Value.slice ska skn skc = Value.slice none 0 0 := ⟨_, _, _, rfl⟩
      rw [← hsk] at HX
      have HSK : Hid (∃ G2 : Nat → Prop, StepsIn F G2 sv n l xs w3 ∧ RowAt w3 G2 (.slice ska skn skc) (strs (headStep t0).keys) ∧ (∀ b, G b → G2 b) ∧ (∀ b, G2 b → b < w.heap.size → G b) ∧ ¬ G2 X) := by
        refine Lib.hid ⟨G, HIN.out.kept HG3.out, ?_, fun _ h => h, fun _ h _ => h, fun h => by have := HIN.out.ltG X h; omega⟩
        rw [hsk, ← HT.out]
        exact RowAt.empty _ _
      clear hsk hw3 hX hg1
    case' text b =>
      simp only [ItemAt] at hit
      subst hit
      have a0 : ∀ (w : World), (Instr.typeAssert (.iface 120 (.string b)) 72 142 true).run Tryz.prog w = .ok (.tuple #[.bool false, .bool false]) w := fun _ => by kernel_rfl
      have a1 : ∀ (w : World), (Instr.typeAssert (.iface 120 (.string b)) 72 146 true).run Tryz.prog w = .ok (.tuple #[.float .f64 0, .bool false]) w := fun _ => by kernel_rfl
      have a2 : ∀ (w : World), (Instr.typeAssert (.iface 120 (.string b)) 72 120 true).run Tryz.prog w = .ok (.tuple #[.string b, .bool true]) w := fun _ => by kernel_rfl
      go_enter Tryz.func99, Tryz.ntmps99
      go_upto_region 18 with (first | (refine wpList_invoke rfl _ _ _ rfl _ rfl f args HM.out _ HC.out ?_; rintro e w1 ⟨rfl, hg1⟩; refine ⟨_, rfl, ?_⟩; rw [show sortT t0 = 4 from by rw [← HT.out]; rfl]))
      obtain ⟨X, hX⟩ : ∃ X, X = w1.heap.size := ⟨_, rfl⟩
      obtain ⟨w3, hw3⟩ : ∃ x, x = w1.alloc (.cells (stepC (headStep (.text b)) (.slice none 0 0)).toArray 48) := ⟨_, rfl⟩
      have HX : Hid (Blk w3 X (stepC (headStep t0) (.slice none 0 0)) 48) := by rw [hw3, hX, ← HT.out]; exact Lib.hid (Blk.new _ _ _)
      have HG3 : Hid (Chg w w3 []) := by rw [hw3]; exact Lib.hid (hg1.alloc _)
      have hXw : w.heap.size ≤ X := by rw [hX]; exact hg1.size
      change Code.wp _ _ _ _ (w1.alloc (.cells (stepC (headStep (.text b)) (.slice none 0 0)).toArray 48))
      rw [← hw3, ← hX]
      obtain ⟨ska, skn, skc, hsk⟩ : ∃ ska skn skc, Value.slice ska skn skc = Value.slice none 0 0 := ⟨_, _, _, rfl⟩
      rw [← hsk] at HX
      have HSK : Hid (∃ G2 : Nat → Prop, StepsIn F G2 sv n l xs w3 ∧ RowAt w3 G2 (.slice ska skn skc) (strs (headStep t0).keys) ∧ (∀ b, G b → G2 b) ∧ (∀ b, G2 b → b < w.heap.size → G b) ∧ ¬ G2 X) := by
        refine Lib.hid ⟨G, HIN.out.kept HG3.out, ?_, fun _ h => h, fun _ h _ => h, fun h => by have := HIN.out.ltG X h; omega⟩
        rw [hsk, ← HT.out]
        exact RowAt.empty _ _
      clear hsk hw3 hX hg1
    case' list ll =>
      simp only [ItemAt] at hit
      obtain ⟨b, sl, vv, rfl, hFb, _, _, _, c3, hr, hi⟩ := hit
      obtain ⟨sa, sc, rfl, _⟩ := hr.cell
      have HVL := Lib.hid hi.length
      have lb := HIN.out.ltF b hFb
      clear hr hi
      have a0 : ∀ (w : World), (Instr.typeAssert (.iface 149 (.pointer (some ⟨b, 0, none⟩))) 72 142 true).run Tryz.prog w = .ok (.tuple #[.bool false, .bool false]) w := fun _ => by kernel_rfl
      have a1 : ∀ (w : World), (Instr.typeAssert (.iface 149 (.pointer (some ⟨b, 0, none⟩))) 72 146 true).run Tryz.prog w = .ok (.tuple #[.float .f64 0, .bool false]) w := fun _ => by kernel_rfl
      have a2 : ∀ (w : World), (Instr.typeAssert (.iface 149 (.pointer (some ⟨b, 0, none⟩))) 72 120 true).run Tryz.prog w = .ok (.tuple #[.string ⟨#[]⟩, .bool false]) w := fun _ => by kernel_rfl
      have a3 : ∀ (w : World), (Instr.typeAssert (.iface 149 (.pointer (some ⟨b, 0, none⟩))) 72 149 true).run Tryz.prog w = .ok (.tuple #[.pointer (some ⟨b, 0, none⟩), .bool true]) w := fun _ => by kernel_rfl
      go_enter Tryz.func99, Tryz.ntmps99
      go_upto_region 18 with (first | (refine wpList_invoke rfl _ _ _ rfl _ rfl f args HM.out _ HC.out ?_; rintro e w1 ⟨rfl, hg1⟩; refine ⟨_, rfl, ?_⟩; rw [show sortT t0 = 5 from by rw [← HT.out]; rfl]; have c31 := hg1.keeps c3; have lb1 := Nat.lt_of_lt_of_le lb hg1.size))
      rw [HVL.out]
      obtain ⟨X, hX⟩ : ∃ X, X = w1.heap.size := ⟨_, rfl⟩
      obtain ⟨w3, hw3⟩ : ∃ x, x = w1.alloc (.cells (stepC (headStep (.list ll)) (.slice none 0 0)).toArray 48) := ⟨_, rfl⟩
      have HX : Hid (Blk w3 X (stepC (headStep t0) (.slice none 0 0)) 48) := by rw [hw3, hX, ← HT.out]; exact Lib.hid (Blk.new _ _ _)
      have HG3 : Hid (Chg w w3 []) := by rw [hw3]; exact Lib.hid (hg1.alloc _)
      have hXw : w.heap.size ≤ X := by rw [hX]; exact hg1.size
      change Code.wp _ _ _ _ (w1.alloc (.cells (stepC (headStep (.list ll)) (.slice none 0 0)).toArray 48))
      rw [← hw3, ← hX]
      obtain ⟨ska, skn, skc, hsk⟩ : ∃ ska skn skc, Value.slice ska skn skc = Value.slice none 0 0 := ⟨_, _, _, rfl⟩
      rw [← hsk] at HX
      have HSK : Hid (∃ G2 : Nat → Prop, StepsIn F G2 sv n l xs w3 ∧ RowAt w3 G2 (.slice ska skn skc) (strs (headStep t0).keys) ∧ (∀ b, G b → G2 b) ∧ (∀ b, G2 b → b < w.heap.size → G b) ∧ ¬ G2 X) := by
        refine Lib.hid ⟨G, HIN.out.kept HG3.out, ?_, fun _ h => h, fun _ h _ => h, fun h => by have := HIN.out.ltG X h; omega⟩
        rw [hsk, ← HT.out]
        exact RowAt.empty _ _
      clear hsk hw3 hX hg1
    case' obj kk ll =>
      simp only [ItemAt] at hit
      obtain ⟨b, sk0, sl, vv, rfl, hFb, hkl, _, _, _, c3, hr, _, _, _⟩ := hit
      obtain ⟨sa, sc, rfl, _⟩ := hr.cell
      have HR := Lib.hid hr
      have lb := HIN.out.ltF b hFb
      have HKL := Lib.hid hkl
      clear hr hkl
      have a0 : ∀ (w : World), (Instr.typeAssert (.iface 174 (.pointer (some ⟨b, 0, none⟩))) 72 142 true).run Tryz.prog w = .ok (.tuple #[.bool false, .bool false]) w := fun _ => by kernel_rfl
      have a1 : ∀ (w : World), (Instr.typeAssert (.iface 174 (.pointer (some ⟨b, 0, none⟩))) 72 146 true).run Tryz.prog w = .ok (.tuple #[.float .f64 0, .bool false]) w := fun _ => by kernel_rfl
      have a2 : ∀ (w : World), (Instr.typeAssert (.iface 174 (.pointer (some ⟨b, 0, none⟩))) 72 120 true).run Tryz.prog w = .ok (.tuple #[.string ⟨#[]⟩, .bool false]) w := fun _ => by kernel_rfl
      have a3 : ∀ (w : World), (Instr.typeAssert (.iface 174 (.pointer (some ⟨b, 0, none⟩))) 72 149 true).run Tryz.prog w = .ok (.tuple #[.pointer none, .bool false]) w := fun _ => by kernel_rfl
      have a4 : ∀ (w : World), (Instr.typeAssert (.iface 174 (.pointer (some ⟨b, 0, none⟩))) 72 174 true).run Tryz.prog w = .ok (.tuple #[.pointer (some ⟨b, 0, none⟩), .bool true]) w := fun _ => by kernel_rfl
      go_enter Tryz.func99, Tryz.ntmps99
      go_upto_region 18 with (first
        | (refine wpList_invoke rfl _ _ _ rfl _ rfl f args HM.out _ HC.out ?_; rintro e w1 ⟨rfl, hg1⟩; refine ⟨_, rfl, ?_⟩; rw [show sortT t0 = 6 from by rw [← HT.out]; rfl]; have c31 := hg1.keeps c3; have lb1 := Nat.lt_of_lt_of_le lb hg1.size)
        | (go_at_call 106; (refine (clone_string F _ (strs kk) _ (HR.out.kept ((hg1.alloc _).keepsF HIN.out.ltF (by simp)) (fun _ h => h)) (strs_one kk) (by have := items_length t0; rw [← HT.out] at this; have h2 := hnk; rw [← HT.out] at h2; simp only [itemsT] at this; rw [strs_len, HKL.out]; omega)).mono ?_); rintro e w2 ⟨sk, rfl, hLs, hLo, hg2⟩; obtain ⟨ska, skc, rfl, hska⟩ := hLs.form; have HX2 := Lib.hid ((Blk.new w1 (stepC ⟨6, false, 0, noB, 0, []⟩ (.slice none 0 0)) 48).kept hg2 (by simp)); have qf : ∀ j, w2.frozen? ⟨w1.heap.size, j, none⟩ = false := (fun j => HX2.out.frozen j); have q5 : w2.cell? ⟨w1.heap.size, 5, none⟩ = some (.slice none 0 0) := HX2.out.cell 5; have ql := HX2.out.lt))
      obtain ⟨skn, hskn⟩ : ∃ skn, skn = (strs kk).length := ⟨_, rfl⟩
      rw [← hskn] at hLs hLo ⊢
      obtain ⟨X, hX⟩ : ∃ X, X = w1.heap.size := ⟨_, rfl⟩
      obtain ⟨w3, hw3⟩ : ∃ x, x = w2.setCell ⟨w1.heap.size, 5, none⟩ (.slice ska skn skc) := ⟨_, rfl⟩
      have HX : Hid (Blk w3 X (stepC (headStep t0) (.slice ska skn skc)) 48) := by rw [hw3, hX, ← HT.out]; exact Lib.hid (HX2.out.set 5 _)
      have HG3 : Hid (Chg w w3 []) := by rw [hw3]; exact Lib.hid (((hg1.alloc _).trans hg2).setCell _ _ (by have := hg1.size; simp; omega))
      have hXw : w.heap.size ≤ X := by rw [hX]; exact hg1.size
      rw [← hw3, ← hX]
      have HSK : Hid (∃ G2 : Nat → Prop, StepsIn F G2 sv n l xs w3 ∧ RowAt w3 G2 (.slice ska skn skc) (strs (headStep t0).keys) ∧ (∀ b, G b → G2 b) ∧ (∀ b, G2 b → b < w.heap.size → G b) ∧ ¬ G2 X) := by
        have hown : ∀ g, (Value.slice ska skn skc).ownBlock = some g → w1.heap.size < g := fun g hg => by
          have := hLo g hg; simp at this; omega
        have hL3 : Lst w3 (.slice ska skn skc) 9 (strs kk) := by
          rw [hw3]
          exact hLs.kept (bs := [w1.heap.size]) ((Chg.refl _ _).setCell _ _ (by simp)) (fun g hg => by have := hown g hg; simp; omega)
        have hin3 := HIN.out.kept HG3.out
        refine Lib.hid ⟨fun b => G b ∨ (Value.slice ska skn skc).ownBlock = some b, ⟨hin3.ltF, hin3.lst, StepsAt.kept (fun _ _ _ => rfl) (fun _ h => .inl h) _ _ hin3.at_, fun g hg => ⟨(hin3.own g hg).1, fun h => ?_⟩, fun b hb => ?_⟩, ?_, fun _ h => .inl h, fun b hb hl => ?_, fun h => ?_⟩
        · rcases h with h | h
          · exact (hin3.own g hg).2 h
          · have h1 := hown g h; have h2 := HIN.out.lst.lt hg; have := hg1.size; omega
        · rcases hb with h | h
          · exact hin3.ltG b h
          · exact hL3.lt h
        · rw [← HT.out]
          refine (Lst.toRow hL3).kept (fun _ _ _ => rfl) (fun b h => .inr h)
        · rcases hb with h | h
          · exact h
          · have := hown b h; have := hg1.size; omega
        · rcases h with h | h
          · have := HIN.out.ltG X h; omega
          · have := hown X h; omega
      clear hw3 hX hg1 hg2 hLs hLo hska hskn HX2 qf q5 ql
    all_goals
      obtain ⟨G2, hin3, hsk3, hGa, hGb, hGX⟩ := HSK.out
      have HIN3 := Lib.hid hin3
      have HSK3 := Lib.hid hsk3
      have HGa := Lib.hid hGa
      have HGb := Lib.hid hGb
      have HIT3 := Lib.hid (ItemAt.kept (HG3.out.keepsF HIN.out.ltF (by simp)) (fun _ h => h) _ _ HIT.out)
      clear hin3 hsk3 hGa hGb HSK
      go_wp2_with fail
      refine (ref_items F t0 _ w3 HIT3.out HIN3.out.ltF).mono ?_
      rintro e w4 ⟨sl4, vs4, rfl, hrow, hits, hg4⟩
      obtain ⟨ia, ic, rfl, hcl⟩ := hrow.cell
      have HCL := Lib.hid hcl
      have HITS := Lib.hid hits
      have HIN4 := Lib.hid (HIN3.out.kept hg4)
      have HX4 := Lib.hid (HX.out.kept hg4 (by simp))
      have HSK4 := Lib.hid (HSK3.out.kept (hg4.keepsF HIN3.out.ltG (by simp)) (fun _ h => h))
      have HG4 := Lib.hid (HG3.out.trans hg4)
      have hvl : vs4.length = (itemsT t0).length := hits.length
      have hnl := items_length t0
      have hkk := HK.out
      have HVL4 := Lib.hid hvl
      have hvb : vs4.length ≤ 4294967296 := by omega
      clear hcl hits hg4 hrow hvl HX HG3 HIN3 HSK3 HIT3
      go_wp2_with fail
      go_loopw [0, 55] (fun v0 v55 wr => ∃ (i : Nat) (vv0 : Value), i ≤ vs4.length ∧ v55 = .int .i64 i ∧ vv0 = v0 ∧ StepsLoop G2 sv n l (itemsT t0) w4 i vv0 wr) (fun _ v55 _ => vs4.length - (intOf v55).toNat)
      case atStart => exact ⟨0, sv, by omega, rfl, rfl, StepsLoop.start HIN4.out⟩
      case round =>
        obtain ⟨i, vv0, hi, rfl, rfl, hL⟩ := hrel
        obtain ⟨G5, xs5, hin5, h5a, h5b, h5c, h5d⟩ := StepsLoop.inn HIN4.out hL
        have HIN5 := Lib.hid hin5
        have H5a := Lib.hid h5a
        have H5b := Lib.hid h5b
        have H5c := Lib.hid h5c
        have H5d := Lib.hid h5d
        have HLL := Lib.hid hL
        clear hin5 h5a h5b h5c h5d hL
        by_cases hlt : i < vs4.length
        · obtain ⟨u, hu⟩ : ∃ u, (itemsT t0)[i]? = some u := ⟨_, List.getElem?_eq_getElem (by rw [← HVL4.out]; exact hlt)⟩
          obtain ⟨x, hx, hix⟩ := HITS.out.get i u hu
          obtain ⟨bb, oo, hab, hFb, hcv⟩ := HCL.out i x hx
          subst hab
          have hFo : bb ∉ sv.ownBlock.toList := fun hm => (HIN4.out.own bb (by simpa using hm)).1 hFb
          have hcr : wr.cell? ⟨bb, oo + i, none⟩ = some x := (H5c.out.cell (HIN4.out.ltF bb hFb) hFo).trans hcv
          have HIX := Lib.hid (ItemAt.kept (H5c.out.keepsF HIN4.out.ltF (fun b hm hF => (HIN4.out.own b (by simpa using hm)).1 hF)) (fun _ h => h) _ _ hix)
          obtain ⟨ti, xx, rfl⟩ := hix.iface
          have hun := item_nodes hu
          have htk : (szL ((itemsT t0).take i)).nodes + (szT u).nodes ≤ (szT t0).nodes := by
            have h1 := take_nodes (itemsT t0) (i + 1)
            rw [szL_take_succ hu] at h1
            have h2 := nodes_items t0
            simp only [Sz.add] at h1
            omega
          have HU := Lib.hid hu
          have HIHC := Lib.hid (IH.out u F G5 _ _ _ _ xs5 _ (by omega) (by omega) HIX.out HIN5.out)
          clear hu hx hix hcv hun htk hFo
          go_wp2_with fail
          refine HIHC.out.mono ?_
          rintro e w6 hP
          obtain ⟨v1, rfl, hL6⟩ := StepsLoop.next HIN4.out H5a.out H5b.out H5c.out H5d.out HU.out hP
          have HL6 := Lib.hid hL6
          clear hP hL6
          go_wp2_with fail
          go_roundw
          case rel => exact ⟨i + 1, _, by omega, by go_num, rfl, HL6.out⟩
          case measure => simp [intOf]; omega
        · obtain rfl : i = vs4.length := by omega
          have htake : (itemsT t0).take vs4.length = itemsT t0 := List.take_of_length_le (by rw [HVL4.out]; exact Nat.le_refl _)
          rw [htake] at HIN5
          have hnn := nodes_items t0
          have hXo : X ∉ sv.ownBlock.toList := fun hm => by have := HIN.out.lst.lt (by simpa using hm); omega
          have HX5 := Lib.hid (HX4.out.kept H5c.out hXo)
          obtain ⟨xl, xf, x0, x1, x2, x3, x4, x5⟩ := HX5.out.cells6
          obtain ⟨hs, hhs⟩ : ∃ hs, hs = headStep t0 := ⟨_, rfl⟩
          rw [← hhs] at HX5 HSK4 x0 x1 x2 x3 x4
          have HHS := Lib.hid hhs
          have HNN := Lib.hid hnn
          have HHN : Hid ((n + (szL (itemsT t0)).nodes + 1) * 72 ≤ 140737488355328 ∧ n + (szL (itemsT t0)).nodes ≤ 140737488355328) := Lib.hid ⟨by omega, by omega⟩
          clear hhs htake hnn hXo hnk hkk hnl xf xl
          go_wp2_with (first
            | (at_builtin; go_loud (refine wpList_appendK rfl _ _ _ rfl 48 zStep 6 72 (by decide) Tryz.underlying44 info_step rfl vv0 (n + (szL (itemsT t0)).nodes) xs5 (by rfl) (by exact HIN5.out.lst.kept (bs := []) (by (repeat (first | exact Chg.refl _ _ | with_reducible refine Chg.drewN ?_ _ | with_reducible refine Chg.drew ?_ | with_reducible refine Chg.alloc ?_ _ | with_reducible refine Chg.setCell ?_ _ _ (by simp) | with_reducible refine Chg.setCell ?_ _ _ (by simp; omega)))) (by simp)) wr.heap.size (stepC hs (.slice ska skn skc)) (by rfl) rfl (by intro j v hv; exact ((Blk.new wr (stepC hs (.slice ska skn skc)) 48).cell j).trans hv) (stepC_one _ _ ska skn skc rfl) HHN.out.1 HHN.out.2 ?_); intro g cap w7 hL7 hC7 hO7; have HL7 := Lib.hid hL7; have HC7 := Lib.hid hC7; have HO7 := Lib.hid hO7; clear hL7 hC7 hO7))
          go_ret
          have hC5 : Chg w4 (wr.alloc (.cells (stepC hs (.slice ska skn skc)).toArray 48)) sv.ownBlock.toList := H5c.out.alloc _
          have hC8 : Chg w4 w7 sv.ownBlock.toList := hC5.step HC7.out (fun j hj hl => by
            rcases H5d.out j (by simpa using hj) with h | h
            · simpa using h
            · omega)
          have hz4 := HG4.out.size
          have hz5 := H5c.out.size
          have hz7 := HC7.out.size
          simp only [World.size_alloc] at hz7
          have hKG : Keeps G5 wr w7 := by
            have h1 : Chg wr w7 _ := ((Chg.refl wr []).alloc (.cells (stepC hs (.slice ska skn skc)).toArray 48)).none _ |>.trans HC7.out
            exact h1.keepsF HIN5.out.ltG (fun b hm hG => (HIN5.out.own b (by simpa using hm)).2 hG)
          refine ⟨_, G5, xs5 ++ stepC hs (.slice ska skn skc), rfl, ?_, ?_, HG4.out.none _ |>.trans hC8, ?_, fun b hb => H5a.out b (HGa.out b hb), fun b hb hl => HGb.out b (H5b.out b hb (by omega)) hl, fun b hb => by have := HIN5.out.ltG b hb; omega, ?_⟩
          · have e : n + (szT t0).nodes = n + (szL (itemsT t0)).nodes + 1 := by rw [HNN.out]; omega
            rw [e]; exact HL7.out
          · rw [stepsT_eq, ← List.append_assoc]
            refine (StepsAt.kept hKG (fun _ h => h) _ _ HIN5.out.at_).append ?_
            rw [← HHS.out]
            refine StepsAt.one hs _ ?_
            have hsk5 := HSK4.out.kept (w' := wr) (G := G5) (H5c.out.keepsF HIN4.out.ltG (fun b hm hG => (HIN4.out.own b (by simpa using hm)).2 hG)) H5a.out
            exact hsk5.kept hKG (fun _ h => h)
          · intro g' hg'
            simp [Value.ownBlock] at hg'
            subst hg'
            rcases HO7.out with h | h
            · rcases H5d.out _ h with h | h
              · exact .inl h
              · exact .inr (by omega)
            · simp at h; exact .inr (by omega)
          · intro g' hg'
            simp [Value.ownBlock] at hg'
            subst hg'
            rcases HO7.out with h | h
            · exact (HIN5.out.own _ h).2
            · intro hG; have := HIN5.out.ltG _ hG; simp at h; omega
end Go.Proofs.YtfdhgakalojahaaGreatDoor

namespace Go.Proofs.YtfdhgakalojahaaGreatDoor
open Go Go.RowKit Tree

def TreeStepsPost (t : Tr) (w : World) (e : Ending) (w' : World) : Prop :=
  ∃ g cap G xs', e = .returned (.slice (some ⟨g, 0, none⟩) (szT t).nodes cap) ∧ LstK w' (.slice (some ⟨g, 0, none⟩) (szT t).nodes cap) 48 6 (szT t).nodes xs' ∧ StepsAt w' G (stepsT t) xs' ∧ Chg w w' [] ∧ w.heap.size ≤ g ∧ (∀ b, G b → b < w'.heap.size)

theorem ref_Steps (F : Nat → Prop) (t : Tr) (v : Value) (w : World) (ht : ItemAt w F t v) (hF : ∀ k, F k → k < w.heap.size) (hn : (szT t).nodes ≤ 4294967296) :
    Calls Tryz.prog 58 #[.agg #[v]] w (TreeStepsPost t w) := by
  obtain ⟨ti, x, rfl⟩ := ht.iface
  have h1 : Chg w (w.alloc (.cells #[.iface ti x] 74)) [] := (Chg.refl w []).alloc _
  have HS := Lib.hid (node_steps (szT t).nodes t F (fun _ => False) (.iface ti x) (.slice none 0 0) 0 [] [] (w.alloc (.cells #[.iface ti x] 74)) (Nat.le_refl _) (by omega) (ItemAt.kept (h1.keepsF hF (by simp)) (fun _ h => h) _ _ ht)
    ⟨fun b hb => Nat.lt_of_lt_of_le (hF b hb) h1.size, LstK.nil _ _ _, rfl, fun g hg => (by cases hg), fun b hb => hb.elim⟩)
  have H1 := Lib.hid h1
  have hpos := nodes_pos t
  have HP := Lib.hid hpos
  clear ht hF h1 hpos hn
  go_enter Tryz.func58, Tryz.ntmps58
  go_wp2_with fail
  refine HS.out.mono ?_
  rintro e w1 ⟨sv, G, xs, rfl, k1, k2, k3, k4, k5, k6, k7, k8⟩
  rw [Nat.zero_add] at k1
  obtain ⟨a, cap, rfl, ha⟩ := k1.form
  obtain ⟨g, rfl⟩ := ha HP.out
  have K1 := Lib.hid k1
  have K2 := Lib.hid k2
  have K3 := Lib.hid k3
  have K4 := Lib.hid k4
  have K7 := Lib.hid k7
  clear k1 k2 k3 k4 k5 k6 k7 k8 ha
  go_wp2_with fail
  go_ret
  refine ⟨g, cap, G, xs, rfl, K1.out, K2.out, H1.out.fresh K3.out (by simp [Value.ownBlock]), ?_, K7.out⟩
  rcases K4.out g rfl with h | h
  · simp [Value.ownBlock] at h
  · have := H1.out.size; omega

theorem tree_Steps (F : Nat → Prop) (tb : Nat) (t : Tr) (w : World) (hT : TreeAt w F tb t) (hF : ∀ k, F k → k < w.heap.size) (hn : (szT t).nodes ≤ 4294967296) :
    Calls Tryz.prog 34 #[.pointer (some ⟨tb, 0, none⟩)] w (TreeStepsPost t w) := by
  obtain ⟨v, hc, hit, hb⟩ := hT
  have HR := Lib.hid (tree_Root F tb v w hc hit.iface hb)
  have HIT := Lib.hid hit
  have HF := Lib.hid hF
  clear hc hit hb hF
  go_enter Tryz.func34, Tryz.ntmps34
  go_wp2_with fail
  refine HR.out.mono ?_
  rintro e w1 ⟨rfl, hg1⟩
  have HG := Lib.hid hg1
  have HS := Lib.hid (ref_Steps F t v w1 (ItemAt.kept (hg1.keepsF HF.out (by simp)) (fun _ h => h) _ _ HIT.out) (fun k hk => Nat.lt_of_lt_of_le (HF.out k hk) hg1.size) hn)
  clear hg1
  go_wp2_with fail
  refine HS.out.mono ?_
  rintro e w2 ⟨g, cap, G, xs, rfl, k1, k2, k3, k4, k5⟩
  have K1 := Lib.hid k1
  have K2 := Lib.hid k2
  have K3 := Lib.hid k3
  have K5 := Lib.hid k5
  clear k1 k2 k3 k5
  go_wp2_with fail
  go_ret
  exact ⟨g, cap, G, xs, rfl, K1.out, K2.out, HG.out.trans K3.out, Nat.le_trans HG.out.size k4, K5.out⟩
end Go.Proofs.YtfdhgakalojahaaGreatDoor

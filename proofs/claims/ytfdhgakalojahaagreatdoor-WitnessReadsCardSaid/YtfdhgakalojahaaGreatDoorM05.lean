/- WALKS: floats' small functions. MEMORY: how a node.item lies in memory. -/
import Derived.Test.YtfdhgakalojahaaGreatDoorRows
import Derived.WalkSpells
import Derived.WalkLawsBesides
import Derived.Deep.Light
import Derived.Test.YtfdhgakalojahaaGreatDoorM03
import Derived.Test.YtfdhgakalojahaaGreatDoorM04
import Derived.Test.YtfdhgakalojahaaGreatDoorM01
set_option linter.unusedSimpArgs false
set_option linter.unusedVariables false
set_option linter.unnecessarySimpa false
set_option linter.unusedSectionVars false
namespace Go.Proofs.YtfdhgakalojahaaGreatDoor
open Go Go.RowKit

theorem math_IsNaN (n : Nat) (w : World) : Calls Tryz.prog 74 #[.float .f64 n] w fun e w' => e = .returned (.bool (Ieee.double.order n n != some .eq)) ∧ w = w' := by
  go_enter Tryz.func74, Tryz.ntmps74
  go_wp2
  go_ret
  exact ⟨rfl, rfl⟩

theorem run_frombits (n : Int) (w : World) : (callFunc 73 #[.int .u64 n]).run Tryz.prog w = .ok (.value (.float .f64 n.toNat)) w := by kernel_rfl
theorem run_tobits (n : Nat) (w : World) : (callFunc 39 #[.float .f64 n]).run Tryz.prog w = .ok (.value (.int .u64 n)) w := by kernel_rfl

theorem abs_bits (n : Nat) (hn : n < 18446744073709551616) : (bits BinOp.andNot IntKind.u64 (n : Int) 9223372036854775808).toNat = n % 9223372036854775808 := by
  have := u64_andNot_nat n 9223372036854775808 hn (by decide)
  rw [show ((9223372036854775808 : Nat) : Int) = 9223372036854775808 from rfl] at this
  rw [this, Int.toNat_natCast, show 18446744073709551615 - 9223372036854775808 = 2 ^ 63 - 1 from by decide, Nat.and_two_pow_sub_one_eq_mod]

set_option maxRecDepth 100000 in
theorem math_Abs (n : Nat) (hn : n < 18446744073709551616) (w : World) : Calls Tryz.prog 104 #[.float .f64 n] w fun e w' => e = .returned (.float .f64 (n % 9223372036854775808)) ∧ w = w' := by
  have HN := Lib.hid (abs_bits n hn)
  have h1 := run_tobits
  have h2 := run_frombits
  clear hn
  go_enter Tryz.func104, Tryz.ntmps104
  go_wp2
  go_ret
  exact ⟨congrArg (fun k => Ending.returned (.float .f64 k)) HN.out, rfl⟩

set_option maxRecDepth 100000 in
theorem math_IsInf (n : Nat) (hn : n < 18446744073709551616) (w : World) : Calls Tryz.prog 75 #[.float .f64 n, .int .i64 0] w fun e w' => e = .returned (.bool (Ieee.double.order (n % 9223372036854775808) 9218868437227405311 == some .gt)) ∧ w = w' := by
  have HN := Lib.hid hn
  clear hn
  go_enter Tryz.func75, Tryz.ntmps75
  go_wp2_with (first | (go_at_call 104; refine (math_Abs _ HN.out _).mono ?_; rintro e w' ⟨rfl, rfl⟩))
  go_ret
  exact ⟨rfl, rfl⟩

/-- the same, said of bits -/
theorem math_IsNaN' (n : Nat) (w : World) : Calls Tryz.prog 74 #[.float .f64 n] w fun e w' => e = .returned (.bool (decide (9218868437227405312 < Fl.rung n))) ∧ w = w' := by
  rw [← Fl.isNaN_iff]; exact math_IsNaN n w
theorem math_IsInf' (n : Nat) (hn : n < 18446744073709551616) (w : World) : Calls Tryz.prog 75 #[.float .f64 n, .int .i64 0] w fun e w' => e = .returned (.bool (decide (Fl.rung n = 9218868437227405312))) ∧ w = w' := by
  rw [← Fl.isInf_iff]; exact math_IsInf n hn w
end Go.Proofs.YtfdhgakalojahaaGreatDoor

namespace Go.Proofs.YtfdhgakalojahaaGreatDoor
open Go Go.RowKit Tree

/-- the elements of a slice of one-cell elements, in blocks of F -/
def RowAt (w : World) (F : Nat → Prop) (sl : Value) (vs : List Value) : Prop :=
  (vs = [] ∧ ∃ a c, sl = .slice a 0 c) ∨
  (∃ b o c, sl = .slice (some ⟨b, o, none⟩) vs.length c ∧ F b ∧ ∀ i v, vs[i]? = some v → w.cell? ⟨b, o + i, none⟩ = some v)

def strs (ks : List ByteArray) : List Value := ks.map Value.string

mutual
def ItemAt (w : World) (F : Nat → Prop) : Tr → Value → Prop
  | .null, v => v = .iface 141 (.agg #[])
  | .flag b, v => v = .iface 142 (.bool b)
  | .num n, v => v = .iface 146 (.float .f64 n)
  | .text s, v => v = .iface 120 (.string s)
  | .list l, v => ∃ b sl vs, v = .iface 149 (.pointer (some ⟨b, 0, none⟩)) ∧ F b ∧
      w.cell? ⟨b, 0, none⟩ = some (.int .i64 (szT (.list l)).nodes) ∧ w.cell? ⟨b, 1, none⟩ = some (.int .i64 (szT (.list l)).bytes) ∧
      w.cell? ⟨b, 2, none⟩ = some (.int .i64 (szT (.list l)).depth) ∧ w.cell? ⟨b, 3, none⟩ = some sl ∧ RowAt w F sl vs ∧ ItemsAt w F l vs
  | .obj ks l, v => ∃ b sk sl vs, v = .iface 174 (.pointer (some ⟨b, 0, none⟩)) ∧ F b ∧ ks.length = l.length ∧
      w.cell? ⟨b, 0, none⟩ = some (.int .i64 (szT (.obj ks l)).nodes) ∧ w.cell? ⟨b, 1, none⟩ = some (.int .i64 (szT (.obj ks l)).bytes) ∧
      w.cell? ⟨b, 2, none⟩ = some (.int .i64 (szT (.obj ks l)).depth) ∧ w.cell? ⟨b, 3, none⟩ = some sk ∧ RowAt w F sk (strs ks) ∧
      w.cell? ⟨b, 4, none⟩ = some sl ∧ RowAt w F sl vs ∧ ItemsAt w F l vs
def ItemsAt (w : World) (F : Nat → Prop) : List Tr → List Value → Prop
  | [], vs => vs = []
  | t :: l, vs => ∃ v r, vs = v :: r ∧ ItemAt w F t v ∧ ItemsAt w F l r
end

/-- the cells of the blocks of F read in w' as in w -/
def Keeps (F : Nat → Prop) (w w' : World) : Prop := ∀ b o, F b → w'.cell? ⟨b, o, none⟩ = w.cell? ⟨b, o, none⟩

theorem RowAt.kept {w w' : World} {F G : Nat → Prop} {sl : Value} {vs : List Value} (h : RowAt w F sl vs) (hk : Keeps F w w') (hF : ∀ b, F b → G b) : RowAt w' G sl vs := by
  rcases h with h | ⟨b, o, c, h1, h2, h3⟩
  · exact .inl h
  · exact .inr ⟨b, o, c, h1, hF b h2, fun i v hv => (hk b _ h2).trans (h3 i v hv)⟩

mutual
theorem ItemAt.kept {w w' : World} {F G : Nat → Prop} (hk : Keeps F w w') (hF : ∀ b, F b → G b) : ∀ (t : Tr) (v : Value), ItemAt w F t v → ItemAt w' G t v
  | .null, _, h => h
  | .flag _, _, h => h
  | .num _, _, h => h
  | .text _, _, h => h
  | .list l, v, h => by
    obtain ⟨b, sl, vs, h1, h2, h3, h4, h5, h6, h7, h8⟩ := h
    exact ⟨b, sl, vs, h1, hF b h2, (hk b _ h2).trans h3, (hk b _ h2).trans h4, (hk b _ h2).trans h5, (hk b _ h2).trans h6, h7.kept hk hF, ItemsAt.kept hk hF l vs h8⟩
  | .obj ks l, v, h => by
    obtain ⟨b, sk, sl, vs, h1, h2, h0, h3, h4, h5, h6, h7, h8, h9, h10⟩ := h
    exact ⟨b, sk, sl, vs, h1, hF b h2, h0, (hk b _ h2).trans h3, (hk b _ h2).trans h4, (hk b _ h2).trans h5, (hk b _ h2).trans h6, h7.kept hk hF, (hk b _ h2).trans h8, h9.kept hk hF, ItemsAt.kept hk hF l vs h10⟩
theorem ItemsAt.kept {w w' : World} {F G : Nat → Prop} (hk : Keeps F w w') (hF : ∀ b, F b → G b) : ∀ (l : List Tr) (vs : List Value), ItemsAt w F l vs → ItemsAt w' G l vs
  | [], _, h => h
  | t :: l, vs, h => by
    obtain ⟨v, r, h1, h2, h3⟩ := h
    exact ⟨v, r, h1, ItemAt.kept hk hF t v h2, ItemsAt.kept hk hF l r h3⟩
end

theorem Chg.keepsF {w w' : World} {bs : List Nat} {F : Nat → Prop} (h : Chg w w' bs) (hlt : ∀ b, F b → b < w.heap.size) (hn : ∀ b, b ∈ bs → ¬ F b) : Keeps F w w' :=
  fun b o hb => h.cell (p := ⟨b, o, Option.none⟩) (hlt b hb) fun hm => hn b hm hb
theorem ItemsAt.get {w : World} {F : Nat → Prop} : ∀ {l : List Tr} {vs : List Value}, ItemsAt w F l vs → ∀ (i : Nat) (t : Tr), l[i]? = some t → ∃ v, vs[i]? = some v ∧ ItemAt w F t v
  | [], _, _, i, t, hi => by simp at hi
  | u :: l, vs, h, i, t, hi => by
    simp only [ItemsAt] at h
    obtain ⟨v, r, rfl, h2, h3⟩ := h
    cases i with
    | zero => simp at hi; subst hi; exact ⟨v, rfl, h2⟩
    | succ i => simp at hi; obtain ⟨v', g1, g2⟩ := h3.get i t hi; exact ⟨v', by simpa using g1, g2⟩

theorem ItemsAt.drop {w : World} {F : Nat → Prop} : ∀ {l : List Tr} {vs : List Value}, ItemsAt w F l vs → ∀ (k : Nat), ItemsAt w F (l.drop k) (vs.drop k)
  | l, vs, h, 0 => by simpa using h
  | [], _, h, k + 1 => by simp only [ItemsAt] at h; subst h; simp [ItemsAt]
  | t :: l, vs, h, k + 1 => by
    simp only [ItemsAt] at h
    obtain ⟨v, r, rfl, h2, h3⟩ := h
    simpa using h3.drop k

theorem ItemsAt.take {w : World} {F : Nat → Prop} : ∀ {l : List Tr} {vs : List Value}, ItemsAt w F l vs → ∀ (k : Nat), ItemsAt w F (l.take k) (vs.take k)
  | l, vs, h, 0 => by simp [ItemsAt]
  | [], _, h, k + 1 => by simp only [ItemsAt] at h; subst h; simp [ItemsAt]
  | t :: l, vs, h, k + 1 => by
    simp only [ItemsAt] at h
    obtain ⟨v, r, rfl, h2, h3⟩ := h
    simp only [List.take_succ_cons, ItemsAt]
    exact ⟨v, r.take k, rfl, h2, h3.take k⟩

theorem RowAt.cell {w : World} {F : Nat → Prop} {sl : Value} {vs : List Value} (h : RowAt w F sl vs) : ∃ a c, sl = .slice a vs.length c ∧ ∀ i v, vs[i]? = some v → ∃ b o, a = some ⟨b, o, none⟩ ∧ F b ∧ w.cell? ⟨b, o + i, none⟩ = some v := by
  rcases h with ⟨rfl, a, c, rfl⟩ | ⟨b, o, c, rfl, h2, h3⟩
  · exact ⟨a, c, rfl, fun i v hv => by simp at hv⟩
  · exact ⟨_, c, rfl, fun i v hv => ⟨b, o, rfl, h2, h3 i v hv⟩⟩
end Go.Proofs.YtfdhgakalojahaaGreatDoor

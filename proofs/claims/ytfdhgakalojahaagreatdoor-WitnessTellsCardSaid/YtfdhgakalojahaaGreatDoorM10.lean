/- WALKS: the program's layer 3: two right texts held against each other. WALKS: may a text be an origin? The program's answer and the reference's. -/
import Derived.Test.YtfdhgakalojahaaGreatDoorM09
import Derived.Test.YtfdhgakalojahaaGreatDoorM01
import Derived.Test.YtfdhgakalojahaaGreatDoorM07
set_option linter.unusedSimpArgs false
set_option linter.unusedVariables false
set_option linter.unnecessarySimpa false
set_option linter.unusedSectionVars false
namespace Go.Proofs.YtfdhgakalojahaaGreatDoor
open Go Go.RowKit

def cmpI (x y : Int) : Int := if x < y then -1 else if y < x then 1 else 0

theorem cmp_i64 (x y : Int) (w : World) : Calls Tryz.prog 91 #[.int .i64 x, .int .i64 y] w fun e w' => e = .returned (.int .i64 (cmpI x y)) ∧ w = w' := by
  unfold cmpI
  by_cases h1 : x < y
  · rw [if_pos h1]
    go_enter Tryz.func91, Tryz.ntmps91
    go_wp2
    go_ret
    exact ⟨rfl, rfl⟩
  · rw [if_neg h1]
    by_cases h2 : y < x
    · rw [if_pos h2]
      go_enter Tryz.func91, Tryz.ntmps91
      go_wp2
      go_ret
      exact ⟨rfl, rfl⟩
    · rw [if_neg h2]
      go_enter Tryz.func91, Tryz.ntmps91
      go_wp2
      go_ret
      exact ⟨rfl, rfl⟩
theorem cmp_u8 (x y : Int) (w : World) : Calls Tryz.prog 93 #[.int .u8 x, .int .u8 y] w fun e w' => e = .returned (.int .i64 (cmpI x y)) ∧ w = w' := by
  unfold cmpI
  by_cases h1 : x < y
  · rw [if_pos h1]
    go_enter Tryz.func93, Tryz.ntmps93
    go_wp2
    go_ret
    exact ⟨rfl, rfl⟩
  · rw [if_neg h1]
    by_cases h2 : y < x
    · rw [if_pos h2]
      go_enter Tryz.func93, Tryz.ntmps93
      go_wp2
      go_ret
      exact ⟨rfl, rfl⟩
    · rw [if_neg h2]
      go_enter Tryz.func93, Tryz.ntmps93
      go_wp2
      go_ret
      exact ⟨rfl, rfl⟩

theorem utf_high (c : Nat) (w : World) : Calls Tryz.prog 92 #[.int .u8 c] w fun e w' => e = .returned (.bool (decide (240 ≤ (c : Int)))) ∧ w = w' := by
  go_enter Tryz.func92, Tryz.ntmps92
  go_wp2
  go_ret
  exact ⟨rfl, rfl⟩

set_option maxRecDepth 100000 in
set_option maxHeartbeats 3000000 in
theorem utf_Compare (a b : ByteArray) (w : World) (ha : a.size ≤ 2147483648) (hb : b.size ≤ 2147483648) (ra : Utf.rightB a = true) (rb : Utf.rightB b = true) :
    Calls Tryz.prog 51 #[.string a, .string b] w fun e w' => e = .returned (.int .i64 (Utf.cmpR a b)) ∧ Chg w w' [] := by
  have RA := Lib.hid ra
  have RB := Lib.hid rb
  clear ra rb
  go_enter Tryz.func51, Tryz.ntmps51
  go_wp2_with (first
    | (go_at_call_of 54 (Value.string a); refine (utf_Right a _ ha).mono ?_; rintro e w1 ⟨rfl, hg1⟩; rw [RA.out])
    | (go_at_call 54; refine (utf_Right b _ hb).mono ?_; rintro e w2 ⟨rfl, hg2⟩; rw [RB.out]))
  go_loopw [7] (fun v wr => ∃ i : Nat, v = .int .i64 i ∧ i ≤ a.size ∧ i ≤ b.size ∧ Chg w wr [] ∧ Utf.cmpL ((Utf.bytesL a).drop i) ((Utf.bytesL b).drop i) = Utf.cmpR a b) (fun v _ => a.size - (intOf v).toNat)
  case atStart => exact ⟨0, rfl, by omega, by omega, hg1.trans hg2, rfl⟩
  case round =>
    obtain ⟨i, rfl, hi1, hi2, hg, he⟩ := hrel
    have HG := Lib.hid hg
    have HE := Lib.hid he
    clear hg he
    by_cases h1 : i < a.size
    · by_cases h2 : i < b.size
      · have HX := Lib.hid (Utf.byteAt_eq h1)
        have HY := Lib.hid (Utf.byteAt_eq h2)
        by_cases hxy : a[i].toNat = b[i].toNat
        · have t1 : ((a[i].toNat : Int) == (b[i].toNat : Int)) = true := by simp [hxy]
          have hn : Utf.cmpL ((Utf.bytesL a).drop (i + 1)) ((Utf.bytesL b).drop (i + 1)) = Utf.cmpR a b := by
            rw [← HE.out, Utf.bytesL_drop h1, Utf.bytesL_drop h2]
            simp only [Utf.cmpL]
            rw [if_pos (by rw [HX.out, HY.out]; exact hxy)]
          have HN := Lib.hid hn
          clear hn hxy
          go_wp2
          go_quiet (fail)
          go_wp2
          go_roundw
          case rel => exact ⟨i + 1, by go_num, by omega, by omega, by (repeat (first | exact HG.out | with_reducible refine Chg.drewN ?_ _ | with_reducible refine Chg.drew ?_ | with_reducible refine Chg.alloc ?_ _ | with_reducible refine Chg.setCell ?_ _ _ (by simp) | with_reducible refine Chg.setCell ?_ _ _ (by simp; omega))), HN.out⟩
          case measure => simp [intOf]; omega
        · have t1 : ((a[i].toNat : Int) == (b[i].toNat : Int)) = false := by rw [beq_eq_false_iff_ne]; omega
          have t2 : ((i : Int) == (a.size : Int)) = false := by rw [beq_eq_false_iff_ne]; omega
          have t3 : ((i : Int) == (b.size : Int)) = false := by rw [beq_eq_false_iff_ne]; omega
          have hn : Utf.cmpR a b = Utf.cmpByte a[i].toNat b[i].toNat := by
            rw [← HE.out, Utf.bytesL_drop h1, Utf.bytesL_drop h2]
            simp only [Utf.cmpL]
            rw [if_neg (by rw [HX.out, HY.out]; exact hxy), HX.out, HY.out]
          have HN := Lib.hid hn
          have HNE := Lib.hid hxy
          clear hn hxy
          go_wp2
          go_quiet (fail)
          go_wp2
          go_quiet (fail)
          go_wp2_with (first
            | (go_at_call 92; refine (utf_high _ _).mono ?_; rintro e w' ⟨rfl, rfl⟩)
            | (go_at_call 93; refine (cmp_u8 _ _ _).mono ?_; rintro e w' ⟨rfl, rfl⟩))
          all_goals go_ret
          all_goals refine ⟨ret_int ?_, by (repeat (first | exact HG.out | with_reducible refine Chg.drewN ?_ _ | with_reducible refine Chg.drew ?_ | with_reducible refine Chg.alloc ?_ _ | with_reducible refine Chg.setCell ?_ _ _ (by simp) | with_reducible refine Chg.setCell ?_ _ _ (by simp; omega)))⟩
          all_goals go_light
          all_goals rw [HN.out]
          all_goals have hne := HNE.out
          all_goals unfold Utf.cmpByte
          all_goals (try unfold cmpI)
          all_goals repeat' split
          all_goals first | rfl | omega | (simp at *; omega)
      · have t2 : ((i : Int) == (a.size : Int)) = false := by rw [beq_eq_false_iff_ne]; omega
        have t3 : ((i : Int) == (b.size : Int)) = true := by rw [beq_iff_eq]; omega
        have hn : Utf.cmpR a b = cmpI a.size b.size := by
          rw [← HE.out, Utf.bytesL_drop h1, Utf.bytesL_end (s := b) (by omega)]
          simp only [Utf.cmpL, cmpI]
          rw [if_neg (by omega), if_pos (by omega)]
        have HN := Lib.hid hn
        clear hn
        go_wp2
        go_quiet (fail)
        go_wp2_with (first | (go_at_call 91; refine (cmp_i64 _ _ _).mono ?_; rintro e w' ⟨rfl, rfl⟩))
        go_ret
        exact ⟨ret_int HN.out.symm, by (repeat (first | exact HG.out | with_reducible refine Chg.drewN ?_ _ | with_reducible refine Chg.drew ?_ | with_reducible refine Chg.alloc ?_ _ | with_reducible refine Chg.setCell ?_ _ _ (by simp) | with_reducible refine Chg.setCell ?_ _ _ (by simp; omega)))⟩
    · have t2 : ((i : Int) == (a.size : Int)) = true := by rw [beq_iff_eq]; omega
      have hn : Utf.cmpR a b = cmpI a.size b.size := by
        rw [← HE.out, Utf.bytesL_end (s := a) (by omega)]
        by_cases h2 : i < b.size
        · rw [Utf.bytesL_drop h2]
          simp only [Utf.cmpL, cmpI]
          rw [if_pos (by omega)]
        · rw [Utf.bytesL_end (s := b) (by omega)]
          simp only [Utf.cmpL, cmpI]
          rw [if_neg (by omega), if_neg (by omega)]
      have HN := Lib.hid hn
      clear hn
      go_wp2
      go_quiet (fail)
      go_wp2_with (first | (go_at_call 91; refine (cmp_i64 _ _ _).mono ?_; rintro e w' ⟨rfl, rfl⟩))
      go_ret
      exact ⟨ret_int HN.out.symm, by (repeat (first | exact HG.out | with_reducible refine Chg.drewN ?_ _ | with_reducible refine Chg.drew ?_ | with_reducible refine Chg.alloc ?_ _ | with_reducible refine Chg.setCell ?_ _ _ (by simp) | with_reducible refine Chg.setCell ?_ _ _ (by simp; omega)))⟩
end Go.Proofs.YtfdhgakalojahaaGreatDoor

namespace Go.Proofs.YtfdhgakalojahaaGreatDoor
open Go Go.RowKit

def originB (s : ByteArray) : Bool := decide (1 ≤ s.size) && decide (s.size ≤ 256) && Utf.rightB s

theorem originB_low {s : ByteArray} (h : ¬ 1 ≤ s.size) : originB s = false := by unfold originB; rw [decide_eq_false h]; rfl
theorem originB_high {s : ByteArray} (h : ¬ s.size ≤ 256) : originB s = false := by unfold originB; rw [decide_eq_false h]; simp
theorem originB_mid {s : ByteArray} (h1 : 1 ≤ s.size) (h2 : s.size ≤ 256) : originB s = Utf.rightB s := by unfold originB; rw [decide_eq_true h1, decide_eq_true h2]; rfl

theorem wit_origin (s : ByteArray) (w : World) (hs : s.size ≤ 2147483648) :
    Calls Tryz.prog 30 #[.string s] w fun e w' => e = .returned (.bool (originB s)) ∧ Chg w w' [] := by
  by_cases h1 : 1 ≤ s.size
  · by_cases h2 : s.size ≤ 256
    · rw [originB_mid h1 h2]
      have HR : Hid (∀ w, Calls Tryz.prog 54 #[.string s] w fun e w' => e = .returned (.bool (Utf.rightB s)) ∧ Chg w w' []) := fun w => utf_Right s w hs
      obtain ⟨r, hr⟩ : ∃ r, r = Utf.rightB s := ⟨_, rfl⟩
      rw [← hr] at HR ⊢
      clear hr
      have d1 : decide (1 ≤ (s.size : Int)) = true := by simp; omega
      have d2 : decide ((s.size : Int) ≤ 256) = true := by simp; omega
      go_enter Tryz.func30, Tryz.ntmps30
      go_wp2_with (first | (go_at_call 54; (with_reducible refine (HR.out _).mono ?_); rintro e w1 ⟨rfl, hg1⟩))
      go_ret
      exact ⟨rfl, hg1⟩
    · rw [originB_high h2]
      go_enter Tryz.func30, Tryz.ntmps30
      go_wp2_with fail
      all_goals go_ret
      exact ⟨rfl, Chg.refl _ _⟩
  · rw [originB_low h1]
    go_enter Tryz.func30, Tryz.ntmps30
    go_wp2_with fail
    all_goals go_ret
    exact ⟨rfl, Chg.refl _ _⟩

theorem r30_origin (s : ByteArray) (w : World) (hs : s.size ≤ 2147483648) :
    Calls Tryz.prog 23 #[.string s] w fun e w' => e = .returned (.bool (originB s)) ∧ w = w' := by
  by_cases h1 : 1 ≤ s.size
  · by_cases h2 : s.size ≤ 256
    · rw [originB_mid h1 h2]
      have HR : Hid (∀ w, Calls Tryz.prog 47 #[.string s] w fun e w' => e = .returned (.bool (Utf.rightB s)) ∧ w = w') := fun w => r3_Right s w hs
      obtain ⟨r, hr⟩ : ∃ r, r = Utf.rightB s := ⟨_, rfl⟩
      rw [← hr] at HR ⊢
      clear hr
      have d1 : decide (1 ≤ (s.size : Int)) = true := by simp; omega
      have d2 : decide ((s.size : Int) ≤ 256) = true := by simp; omega
      go_enter Tryz.func23, Tryz.ntmps23
      go_wp2_with (first | (go_at_call 47; (with_reducible refine (HR.out _).mono ?_); rintro e w1 ⟨rfl, rfl⟩))
      go_ret
      exact ⟨rfl, rfl⟩
    · rw [originB_high h2]
      go_enter Tryz.func23, Tryz.ntmps23
      go_wp2_with fail
      all_goals go_ret
      exact ⟨rfl, rfl⟩
  · rw [originB_low h1]
    go_enter Tryz.func23, Tryz.ntmps23
    go_wp2_with fail
    all_goals go_ret
    exact ⟨rfl, rfl⟩
end Go.Proofs.YtfdhgakalojahaaGreatDoor

/- WALKS: the reference's layer 6: a letter's number, the room of letters. -/
import Derived.Test.YtfdhgakalojahaaGreatDoorM10
set_option linter.unusedSimpArgs false
set_option linter.unusedVariables false
set_option linter.unnecessarySimpa false
set_option linter.unusedSectionVars false
namespace Go.Proofs.YtfdhgakalojahaaGreatDoor
open Go Go.RowKit

theorem hexNum_none' {c : Nat} (h : ∀ m, m < 16 → hexD m ≠ c) : hexNum c = -1 := by
  unfold hexNum
  split
  · rename_i g
    exact absurd (show hexD (c - 48) = c by unfold hexD; rw [if_pos (by omega)]; omega) (h (c - 48) (by omega))
  · split
    · rename_i g
      exact absurd (show hexD (c - 87) = c by unfold hexD; rw [if_neg (by omega)]; omega) (h (c - 87) (by omega))
    · rfl

set_option maxRecDepth 100000 in
theorem r6_number (c : Nat) (w : World) : Calls Tryz.prog 81 #[.int .i64 1, .int .u8 c] w fun e w' => e = .returned (.int .i64 (hexNum c)) ∧ w = w' := by
  go_enter Tryz.func81, Tryz.ntmps81
  go_wp2_with fail
  go_loop [5] (fun v5 => ∃ n : Nat, n ≤ 16 ∧ v5 = .int .i64 n ∧ ∀ m, m < n → hexD m ≠ c) (fun v5 => 16 - (intOf v5).toNat)
  case atStart => exact ⟨0, by omega, rfl, fun m h => by omega⟩
  case round =>
    obtain ⟨n, hn, rfl, hr⟩ := hrel
    have HR := Lib.hid hr
    clear hr
    by_cases hlt : n < 16
    · by_cases he : hexD n = c
      · have hx := hexNum_of hlt he
        have HX := Lib.hid hx
        have ht : ((hexD n : Int) == (c : Int)) = true := by rw [he]; simp
        clear hx he
        go_wp2_with (first
          | (go_at_call 59; refine (r6_Bits _).mono ?_; rintro e w' ⟨rfl, rfl⟩)
          | (go_at_call 62; refine (r6_letter n hlt _).mono ?_; rintro e w' ⟨rfl, rfl⟩))
        go_ret
        exact ⟨ret_int HX.out.symm, rfl⟩
      · have ht : ((hexD n : Int) == (c : Int)) = false := by rw [beq_eq_false_iff_ne]; omega
        have HE := Lib.hid he
        clear he
        go_wp2_with (first
          | (go_at_call 59; refine (r6_Bits _).mono ?_; rintro e w' ⟨rfl, rfl⟩)
          | (go_at_call 62; refine (r6_letter n hlt _).mono ?_; rintro e w' ⟨rfl, rfl⟩))
        go_round
        case rel => exact ⟨n + 1, by omega, by go_num, fun m h => by
          by_cases g : m = n
          · subst g; exact HE.out
          · exact HR.out m (by omega)⟩
        case measure => simp [intOf]; omega
    · obtain rfl : n = 16 := by omega
      have hx := hexNum_none' HR.out
      have HX := Lib.hid hx
      clear hx
      go_wp2_with (first
        | (go_at_call 59; refine (r6_Bits _).mono ?_; rintro e w' ⟨rfl, rfl⟩))
      go_ret
      exact ⟨ret_int HX.out.symm, rfl⟩

set_option maxRecDepth 100000 in
theorem r6_Room (n : Nat) (hn : n ≤ 2147483648) (w : World) : Calls Tryz.prog 82 #[.int .i64 1, .int .i64 n] w fun e w' => e = .returned (.int .i64 (if n % 2 = 0 then ((n / 2 : Nat) : Int) else -1)) ∧ w = w' := by
  obtain ⟨res, hres⟩ : ∃ r : Int, r = (if n % 2 = 0 then ((n / 2 : Nat) : Int) else -1) := ⟨_, rfl⟩
  rw [← hres]
  have HRES := Lib.hid hres
  clear hres
  obtain ⟨m0, hm0⟩ : ∃ m0 : Nat, m0 = n / 8 * 4 := ⟨_, rfl⟩
  have h1 : (n : Int) / 8 * 4 = (m0 : Int) := by omega
  have h2 : m0 ≤ (n + 1) / 2 := by omega
  have HM0 := Lib.hid hm0
  have hm0b : m0 ≤ 1073741825 := by omega
  clear hm0
  go_enter Tryz.func82, Tryz.ntmps82
  go_wp2_with (first | (go_at_call 59; refine (r6_Bits _).mono ?_; rintro e w' ⟨rfl, rfl⟩))
  go_loop [5] (fun v5 => ∃ m : Nat, m ≤ (n + 1) / 2 ∧ v5 = .int .i64 m) (fun v5 => (n + 1) / 2 - (intOf v5).toNat)
  case atStart => exact ⟨m0, h2, rfl⟩
  case round =>
    obtain ⟨m, hm, rfl⟩ := hrel
    have hmb : m ≤ 1073741825 := by omega
    by_cases hlt : 2 * m < n
    · have ht : decide (((2 * m : Nat) : Int) < (n : Int)) = true := by simp; omega
      have ht' : ((2 * m : Nat) : Int) < (n : Int) := by omega
      go_wp2_with (first
        | (go_at_call 60; refine (r6_Size m (by omega) _).mono ?_; rintro e w' ⟨rfl, rfl⟩))
      go_round
      case rel => exact ⟨m + 1, by omega, by go_num⟩
      case measure => simp [intOf]; omega
    · have hme : m = (n + 1) / 2 := by omega
      have ht' : (n : Int) ≤ ((2 * m : Nat) : Int) := by omega
      by_cases hev : n % 2 = 0
      · have hq : ((2 * m : Nat) : Int) = (n : Int) := by omega
        have hq2 : (m : Int) = res := by rw [HRES.out, if_pos hev]; omega
        have HQ2 := Lib.hid hq2
        obtain ⟨z, hz⟩ : ∃ z : Nat, z = 2 * m := ⟨_, rfl⟩
        have hS : Hid (∀ w, Calls Tryz.prog 60 #[.int .i64 1, .int .i64 m] w fun e w' => e = .returned (.int .i64 z) ∧ w = w') := Lib.hid fun w => by rw [hz]; exact r6_Size m (by omega) w
        have hzn : (z : Int) = (n : Int) := by omega
        have hzl : ¬ (z : Int) < (n : Int) := by omega
        have hze : ((z : Int) == (n : Int)) = true := by rw [hzn]; simp
        clear hq hq2 hz hme hev ht' hlt hzn
        go_wp2_with (first
          | (go_at_call 60; refine (hS.out _).mono ?_; rintro e w' ⟨rfl, rfl⟩))
        go_ret
        exact ⟨ret_int HQ2.out, rfl⟩
      · have hq2 : res = -1 := by rw [HRES.out, if_neg hev]
        have HQ2 := Lib.hid hq2
        clear hq2
        obtain ⟨z, hz⟩ : ∃ z : Nat, z = 2 * m := ⟨_, rfl⟩
        have hS : Hid (∀ w, Calls Tryz.prog 60 #[.int .i64 1, .int .i64 m] w fun e w' => e = .returned (.int .i64 z) ∧ w = w') := Lib.hid fun w => by rw [hz]; exact r6_Size m (by omega) w
        have hzl : ¬ (z : Int) < (n : Int) := by omega
        have hze : ((z : Int) == (n : Int)) = false := by rw [beq_eq_false_iff_ne]; omega
        clear hz hme hev ht' hlt
        go_wp2_with (first
          | (go_at_call 60; refine (hS.out _).mono ?_; rintro e w' ⟨rfl, rfl⟩))
        go_ret
        exact ⟨ret_int HQ2.out.symm, rfl⟩
end Go.Proofs.YtfdhgakalojahaaGreatDoor

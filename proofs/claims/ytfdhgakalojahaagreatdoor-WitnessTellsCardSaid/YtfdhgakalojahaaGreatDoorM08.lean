/- WALKS: the program's layer 3. -/
import Derived.Test.YtfdhgakalojahaaGreatDoorRows
import Derived.WalkKit
import Derived.WalkSpells
import Derived.WalkLawsBesides
import Derived.Deep.Light
import Derived.Deep.QuietTactic
import Derived.BigQuiet
import Derived.Test.YtfdhgakalojahaaGreatDoorM01
import Derived.Test.YtfdhgakalojahaaGreatDoorM03
set_option linter.unusedSimpArgs false
set_option linter.unusedVariables false
set_option linter.unnecessarySimpa false
set_option linter.unusedSectionVars false
namespace Go.Proofs.YtfdhgakalojahaaGreatDoor
open Go.RowKit

namespace PUtf
open Utf (lowN highN)
def formV (c : Nat) : Value := .agg #[.int .i64 (Utf.wideN c), .int .u8 (lowN c), .int .u8 (highN c)]

theorem form_post {c : Nat} {a l h : Int} (ha : a = Utf.wideN c) (hl : l = lowN c) (hh : h = highN c) :
    Ending.returned (.agg #[.int .i64 a, .int .u8 l, .int .u8 h]) = .returned (formV c) := by
  subst ha; subst hl; subst hh; rfl
end PUtf

set_option maxRecDepth 100000 in
set_option maxHeartbeats 1000000 in
theorem utf_formOf (c : Nat) (hc : c < 256) (w : World) :
    Calls Tryz.prog 158 #[.int .u8 c] w fun e w' => e = .returned (PUtf.formV c) ∧ Chg w w' [] := by
  go_enter Tryz.func158, Tryz.ntmps158
  go_wp2
  all_goals refine bodyPost_ret (v := .agg #[.int .i64 _, .int .u8 _, .int .u8 _]) (by simp [results, Tryz.results158, go_sem]; exact ⟨rfl, rfl, rfl⟩) rfl ⟨PUtf.form_post ?_ ?_ ?_, (Chg.refl _ _).alloc _⟩
  all_goals go_light
  all_goals (try simp only [beq_iff_eq, beq_eq_false_iff_ne, ne_eq] at *)
  all_goals (first | unfold Utf.wideN | unfold Utf.lowN | unfold Utf.highN)
  all_goals repeat' split
  all_goals omega

set_option maxRecDepth 100000 in
set_option maxHeartbeats 1000000 in
theorem utf_may (c i d : Nat) (hn : 2 ≤ Utf.wideN c) (w : World) :
    Calls Tryz.prog 159 #[PUtf.formV c, .int .i64 i, .int .u8 d] w fun e w' => e = .returned (.bool (Utf.mayB c i d)) ∧ Chg w w' [] := by
  unfold PUtf.formV
  go_enter Tryz.func159, Tryz.ntmps159
  by_cases h1 : i = 1
  · have t1 : ((i : Int) == 1) = true := by simp [h1]
    have H1 := Lib.hid h1
    clear h1
    go_wp2
    all_goals go_ret
    all_goals refine ⟨ret_bool ?_, (Chg.refl _ _).alloc _⟩
    all_goals rw [H1.out, Utf.mayB_one, Utf.second_low d hn, Bool.eq_iff_iff]
    all_goals simp
    all_goals omega
  · have t1 : ((i : Int) == 1) = false := beq_eq_false_iff_ne.2 (by omega)
    have H1 := Lib.hid h1
    clear h1
    go_wp2
    all_goals go_ret
    all_goals refine ⟨ret_bool ?_, (Chg.refl _ _).alloc _⟩
    all_goals rw [Utf.mayB_ne H1.out, Utf.contB, Bool.eq_iff_iff]
    all_goals simp
    all_goals omega


theorem utf_may' (c i d n : Nat) (hN : n = Utf.wideN c) (hn : 2 ≤ Utf.wideN c) (w : World) :
    Calls Tryz.prog 159 #[.agg #[.int .i64 n, .int .u8 (Utf.lowN c), .int .u8 (Utf.highN c)], .int .i64 i, .int .u8 d] w fun e w' =>
      e = .returned (.bool (Utf.mayB c i d)) ∧ Chg w w' [] := by
  subst hN; exact utf_may c i d hn w
end Go.Proofs.YtfdhgakalojahaaGreatDoor

/- WALKS: the program's layer 30: a value as a number. -/
import Derived.Laws.FloatArith
import Derived.Test.YtfdhgakalojahaaGreatDoorM37
import Derived.Test.YtfdhgakalojahaaGreatDoorM05
import Derived.Test.YtfdhgakalojahaaGreatDoorM31
set_option linter.unusedSimpArgs false
set_option linter.unusedVariables false
set_option linter.unnecessarySimpa false
set_option linter.unusedSectionVars false
namespace Go.Proofs.YtfdhgakalojahaaGreatDoor
open Go Go.RowKit Tree

theorem wd_max : Fl.wd 9007199254740991 = 4845873199050653695 := by decide

theorem toIntVal_wd {k : Nat} (hk : k < 9007199254740992) : floatToIntVal .f64 (Fl.wd k) .i64 = some (k : Int) := by
  unfold floatToIntVal
  have h := Fl.toInt_wd hk
  have h' : (FloatKind.decode .f64 (Fl.wd k)).toInt .zero = some (k : Int) := h
  rw [h']
  have h1 : IntKind.i64.min ≤ (k : Int) := by have : IntKind.i64.min = -9223372036854775808 := by decide
                                              omega
  have h2 : (k : Int) ≤ IntKind.i64.max := by have : IntKind.i64.max = 9223372036854775807 := by decide
                                              omega
  simp only [h1, h2, and_self, if_true]

attribute [local irreducible] Ieee.Format.order

set_option maxRecDepth 100000 in
/-- a whole number from 0 on -/
theorem wit_count_wd (F : Nat → Prop) (k : Nat) (hk : k < 9007199254740992) (v : Value) (w : World) (ht : ItemAt w F (.num (Fl.wd k)) v) (hF : ∀ b, F b → b < w.heap.size) :
    Calls Tryz.prog 31 #[.agg #[v]] w fun e w' => e = .returned (.tuple #[.int .i64 k, .bool true]) ∧ Chg w w' [] := by
  have h1 : (FloatKind.f64.format.order (Fl.wd k) 0 == some .lt) = false := Fl.order_wd_zero hk
  have h2 : (FloatKind.f64.format.order (Fl.wd k) 4845873199050653695 == some .gt) = false := by rw [← wd_max]; exact Fl.order_wd_max hk
  have h3 : (FloatKind.f64.format.order (Fl.wd k) (Fl.wd k) != some .eq) = false := by rw [show FloatKind.f64.format.order (Fl.wd k) (Fl.wd k) = some .eq from Fl.order_wd_self hk]; rfl
  have h4 : floatOfInt .f64 (k : Int) = Fl.wd k := floatOfInt_nat k
  have h5 := Fl.toInt_wd hk
  have hc : ∀ w, (Go.convert 65 3 (.float .f64 (Fl.wd k))).run Tryz.prog w = .ok (.int .i64 k) w := by
    intro w
    exact run_convert_float_int w _ _ .f64 .i64 _ _ (by rw [Tryz.underlying65]; rfl) Tryz.underlying3 (toIntVal_wd hk)
  simp only [ItemAt] at ht
  subst ht
  have hN : Hid (∀ w, Calls Tryz.prog 55 #[.agg #[.iface 146 (.float .f64 (Fl.wd k))]] w fun e w' => e = .returned (.tuple #[.float .f64 (Fl.wd k), .bool true]) ∧ Chg w w' []) := Lib.hid fun w => ref_Number F (.num (Fl.wd k)) _ w (by simp only [ItemAt])
  generalize hx : Fl.wd k = x at *
  clear hF hx h5
  have HCC := Lib.hid hc
  clear hc
  go_enter Tryz.func31, Tryz.ntmps31
  go_wp2_with fail
  refine (hN.out _).mono ?_
  rintro e w1 ⟨rfl, hg1⟩
  have HG1 := Lib.hid hg1
  clear hg1
  go_wp2_with (simp only [HCC.out])
  go_ret2
  exact ⟨rfl, ((Chg.refl w []).alloc _).trans HG1.out⟩
end Go.Proofs.YtfdhgakalojahaaGreatDoor

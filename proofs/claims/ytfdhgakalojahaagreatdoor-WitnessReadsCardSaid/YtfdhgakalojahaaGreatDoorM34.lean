/- WALKS: the program's layer 30: a value as a number. WALKS: the program's layer 30: a value as a number, or none. WALKS: the library's Floor of what is from nought to 2^53 - 1. -/
import Derived.Laws.FloatArith
import Derived.Test.YtfdhgakalojahaaGreatDoorM29
import Derived.Test.YtfdhgakalojahaaGreatDoorM04
import Derived.Test.YtfdhgakalojahaaGreatDoorM24
import Derived.Test.YtfdhgakalojahaaGreatDoorM05
set_option linter.unusedSimpArgs false
set_option linter.unusedVariables false
set_option linter.unnecessarySimpa false
set_option linter.unusedSectionVars false
namespace Go.Proofs.YtfdhgakalojahaaGreatDoor
open Go Go.RowKit Tree

theorem wd_max : Fl.wd 9007199254740991 = 4845873199050653695 := by decide

theorem toIntVal_wd {k : Nat} (hk : k < 9007199254740992) : floatToIntVal .f64 (Fl.wd k) .i64 = some (k : Int) := by
  unfold floatToIntVal
  have h := Fl.toInt_wd hk
  have h' : (FloatKind.decode .f64 (Fl.wd k)).toInt .zero = some (k : Int) := h
  rw [h']
  have h1 : IntKind.i64.min ≤ (k : Int) := by have : IntKind.i64.min = -9223372036854775808 := by decide
                                              omega
  have h2 : (k : Int) ≤ IntKind.i64.max := by have : IntKind.i64.max = 9223372036854775807 := by decide
                                              omega
  simp only [h1, h2, and_self, if_true]

attribute [local irreducible] Ieee.Format.order

set_option maxRecDepth 100000 in
/-- a whole number from 0 on -/
theorem wit_count_wd (F : Nat → Prop) (k : Nat) (hk : k < 9007199254740992) (v : Value) (w : World) (ht : ItemAt w F (.num (Fl.wd k)) v) (hF : ∀ b, F b → b < w.heap.size) :
    Calls Tryz.prog 31 #[.agg #[v]] w fun e w' => e = .returned (.tuple #[.int .i64 k, .bool true]) ∧ Chg w w' [] := by
  have h1 : (FloatKind.f64.format.order (Fl.wd k) 0 == some .lt) = false := Fl.order_wd_zero hk
  have h2 : (FloatKind.f64.format.order (Fl.wd k) 4845873199050653695 == some .gt) = false := by rw [← wd_max]; exact Fl.order_wd_max hk
  have h3 : (FloatKind.f64.format.order (Fl.wd k) (Fl.wd k) != some .eq) = false := by rw [show FloatKind.f64.format.order (Fl.wd k) (Fl.wd k) = some .eq from Fl.order_wd_self hk]; rfl
  have h4 : floatOfInt .f64 (k : Int) = Fl.wd k := floatOfInt_nat k
  have h5 := Fl.toInt_wd hk
  have hc : ∀ w, (Go.convert 65 3 (.float .f64 (Fl.wd k))).run Tryz.prog w = .ok (.int .i64 k) w := by
    intro w
    exact run_convert_float_int w _ _ .f64 .i64 _ _ (by rw [Tryz.underlying65]; rfl) Tryz.underlying3 (toIntVal_wd hk)
  simp only [ItemAt] at ht
  subst ht
  have hN : Hid (∀ w, Calls Tryz.prog 55 #[.agg #[.iface 146 (.float .f64 (Fl.wd k))]] w fun e w' => e = .returned (.tuple #[.float .f64 (Fl.wd k), .bool true]) ∧ Chg w w' []) := Lib.hid fun w => ref_Number F (.num (Fl.wd k)) _ w (by simp only [ItemAt])
  generalize hx : Fl.wd k = x at *
  clear hF hx h5
  have HCC := Lib.hid hc
  clear hc
  go_enter Tryz.func31, Tryz.ntmps31
  go_wp2_with fail
  refine (hN.out _).mono ?_
  rintro e w1 ⟨rfl, hg1⟩
  have HG1 := Lib.hid hg1
  clear hg1
  go_wp2_with (simp only [HCC.out])
  go_ret2
  exact ⟨rfl, ((Chg.refl w []).alloc _).trans HG1.out⟩
end Go.Proofs.YtfdhgakalojahaaGreatDoor

namespace Go.Proofs.YtfdhgakalojahaaGreatDoor
open Go Go.RowKit Tree

/-- below nought -/
theorem order_neg {b : Nat} (h1 : 9223372036854775808 ≤ b) (h2 : b < 18446744073709551616) (h3 : Fl.finB b = true) (h4 : Fl.rung b ≠ 0) : (Ieee.double.order b 0 == some .lt) = true := by
  have hf : b % 9223372036854775808 < 9218868437227405312 := by unfold Fl.finB Fl.rung at h3; simpa using h3
  have hr : b % 9223372036854775808 ≠ 0 := h4
  have hd : b / 9223372036854775808 = 1 := by omega
  unfold Ieee.Format.order
  rw [Fl.read_zero]
  unfold Ieee.Format.read
  simp only [Fl.sw, Fl.bin, Fl.inf, Fl.least]
  rw [hd]
  by_cases g : b % 9223372036854775808 < 4503599627370496
  · rw [if_pos g]
    simp only [Ieee.Datum.order, Ieee.signed]
    rw [beq_iff_eq, Option.some.injEq, Int.compare_eq_lt]
    simp only [Nat.shiftLeft_eq]
    have hp : 0 < 2 ^ ((-1074 : Int) - min (-1074) (-1074)).toNat := Nat.two_pow_pos _
    have := Nat.mul_pos (Nat.pos_of_ne_zero hr) hp
    simp only [Nat.zero_mul]
    simp
    omega
  · rw [if_neg g, if_pos hf]
    simp only [Ieee.Datum.order, Ieee.signed]
    rw [beq_iff_eq, Option.some.injEq, Int.compare_eq_lt]
    simp only [Nat.shiftLeft_eq]
    generalize hq : ((-1074 : Int) + ((b % 9223372036854775808 / 4503599627370496 - 1 : Nat) : Int) - min (-1074 + ((b % 9223372036854775808 / 4503599627370496 - 1 : Nat) : Int)) (-1074)).toNat = q
    have hp : 0 < 2 ^ q := Nat.two_pow_pos _
    have hpos := Nat.mul_pos (show 0 < 4503599627370496 + b % 9223372036854775808 % 4503599627370496 by omega) hp
    generalize hP : (4503599627370496 + b % 9223372036854775808 % 4503599627370496) * 2 ^ q = P at hpos ⊢
    simp only [Nat.zero_mul]
    clear hP hq
    simp
    omega

def maxT : Nat := 4845873199050653695

/-- the whole number from 0 to 2^53 - 1 that a value is -/
def cntN : Tr → Option Nat
  | .num b => if b ≤ maxT ∧ Fl.wd (Fl.tr b) = b then some (Fl.tr b) else none
  | _ => none

theorem cntN_num (b : Nat) : cntN (.num b) = if b ≤ maxT ∧ Fl.wd (Fl.tr b) = b then some (Fl.tr b) else none := rfl

/-- a number as trees have them -/
def NumOK (b : Nat) : Prop := b < 18446744073709551616 ∧ Fl.finB b = true ∧ normB b = b

theorem NumOK.cases {b : Nat} (h : NumOK b) : b < 9218868437227405312 ∨ (9223372036854775808 ≤ b ∧ Fl.rung b ≠ 0) := by
  obtain ⟨h1, h2, h3⟩ := h
  unfold normB Fl.rung at h3
  unfold Fl.finB Fl.rung at h2
  unfold Fl.rung
  have h2' : b % 9223372036854775808 < 9218868437227405312 := by simpa using h2
  split at h3
  · left; omega
  · rename_i h4
    by_cases g : b < 9223372036854775808
    · left; omega
    · right; exact ⟨by omega, h4⟩

theorem toIntVal_tr {b : Nat} (h : b ≤ maxT) : floatToIntVal .f64 b .i64 = some (Fl.tr b : Int) := by
  unfold maxT at h
  have ht := Fl.tr_lt h
  unfold floatToIntVal
  have h' : (FloatKind.decode .f64 b).toInt .zero = some (Fl.tr b : Int) := Fl.toInt_pos h
  rw [h']
  have h1 : IntKind.i64.min ≤ (Fl.tr b : Int) := by have : IntKind.i64.min = -9223372036854775808 := by decide
                                                    omega
  have h2 : (Fl.tr b : Int) ≤ IntKind.i64.max := by have : IntKind.i64.max = 9223372036854775807 := by decide
                                                    omega
  simp only [h1, h2, and_self, if_true]

def CntPost (o : Option Nat) (w : World) (e : Ending) (w' : World) : Prop :=
  (match o with
    | some k => e = .returned (.tuple #[.int .i64 k, .bool true])
    | none => e = .returned (.tuple #[.int .i64 0, .bool false])) ∧ Chg w w' []

attribute [local irreducible] Ieee.Format.order

set_option maxRecDepth 100000 in
theorem wit_count_num (b : Nat) (hb : NumOK b) (w : World) :
    Calls Tryz.prog 31 #[.agg #[.iface 146 (.float .f64 b)]] w (CntPost (cntN (.num b)) w) := by
  have hN : Hid (∀ w, Calls Tryz.prog 55 #[.agg #[.iface 146 (.float .f64 b)]] w fun e w' => e = .returned (.tuple #[.float .f64 b, .bool true]) ∧ Chg w w' []) := Lib.hid fun w => ref_Number (fun _ => False) (.num b) _ w (by simp only [ItemAt])
  have hbc := hb.cases
  by_cases hneg : 9223372036854775808 ≤ b
  · have h1 : (FloatKind.f64.format.order b 0 == some .lt) = true := order_neg hneg hb.1 hb.2.1 (by rcases hbc with h | h; omega; exact h.2)
    have hc : cntN (.num b) = none := by rw [cntN_num]; unfold maxT; rw [if_neg (by omega)]
    rw [hc]
    clear hc hneg hb hbc
    go_enter Tryz.func31, Tryz.ntmps31
    go_wp2_with fail
    refine (hN.out _).mono ?_
    rintro e w1 ⟨rfl, hg1⟩
    have HG1 := Lib.hid hg1
    clear hg1
    go_wp2_with fail
    go_ret2
    exact ⟨rfl, ((Chg.refl w []).alloc _).trans HG1.out⟩
  · have hbf : b < 9218868437227405312 := by rcases hbc with h | h; exact h; omega
    have h1 : (FloatKind.f64.format.order b 0 == some .lt) = false := by rw [show FloatKind.f64.format = Ieee.double from rfl, Fl.order_lt hbf (by decide)]; simp
    by_cases hmax : b ≤ maxT
    · have h2 : (FloatKind.f64.format.order b 4845873199050653695 == some .gt) = false := by rw [show FloatKind.f64.format = Ieee.double from rfl, Fl.order_gt hbf (by decide)]; unfold maxT at hmax; simp; omega
      have ht := Fl.tr_lt (show b ≤ 4845873199050653695 from hmax)
      have hwl := Fl.wd_lt ht
      have h4 : floatOfInt .f64 (Fl.tr b : Int) = Fl.wd (Fl.tr b) := floatOfInt_nat _
      have h3 : (FloatKind.f64.format.order b (Fl.wd (Fl.tr b)) != some .eq) = !decide (b = Fl.wd (Fl.tr b)) := by rw [show FloatKind.f64.format = Ieee.double from rfl, Fl.order_ne hbf hwl]
      have hcv : ∀ w, (Go.convert 65 3 (.float .f64 b)).run Tryz.prog w = .ok (.int .i64 (Fl.tr b)) w := fun w =>
        run_convert_float_int w _ _ .f64 .i64 _ _ (by rw [Tryz.underlying65]; rfl) Tryz.underlying3 (toIntVal_tr hmax)
      have hcn : cntN (.num b) = if Fl.wd (Fl.tr b) = b then some (Fl.tr b) else none := by
        rw [cntN_num]
        by_cases g : Fl.wd (Fl.tr b) = b
        · rw [if_pos g, if_pos ⟨hmax, g⟩]
        · rw [if_neg g, if_neg (fun h => g h.2)]
      rw [hcn]
      obtain ⟨k, hk⟩ : ∃ k, k = Fl.tr b := ⟨_, rfl⟩
      obtain ⟨x, hx⟩ : ∃ x, x = Fl.wd k := ⟨_, rfl⟩
      rw [← hk] at h4 h3 hcv ⊢
      rw [← hx] at h4 h3 ⊢
      have HCC := Lib.hid hcv
      clear hk hx hcv hcn ht hwl hmax hbf hneg hb hbc
      by_cases hd : x = b
      · subst hd
        rw [if_pos rfl]
        rw [decide_eq_true rfl] at h3
        simp only [Bool.not_true] at h3
        go_enter Tryz.func31, Tryz.ntmps31
        go_wp2_with fail
        refine (hN.out _).mono ?_
        rintro e w1 ⟨rfl, hg1⟩
        have HG1 := Lib.hid hg1
        clear hg1
        go_wp2_with (simp only [HCC.out])
        go_ret2
        exact ⟨rfl, ((Chg.refl w []).alloc _).trans HG1.out⟩
      · rw [if_neg hd]
        rw [decide_eq_false (fun h => hd h.symm)] at h3
        simp only [Bool.not_false] at h3
        go_enter Tryz.func31, Tryz.ntmps31
        go_wp2_with fail
        refine (hN.out _).mono ?_
        rintro e w1 ⟨rfl, hg1⟩
        have HG1 := Lib.hid hg1
        clear hg1 hd
        go_wp2_with (simp only [HCC.out])
        go_ret2
        exact ⟨rfl, ((Chg.refl w []).alloc _).trans HG1.out⟩
    · have h2 : (FloatKind.f64.format.order b 4845873199050653695 == some .gt) = true := by rw [show FloatKind.f64.format = Ieee.double from rfl, Fl.order_gt hbf (by decide)]; unfold maxT at hmax; simp; omega
      have hc : cntN (.num b) = none := by rw [cntN_num]; rw [if_neg (fun h => hmax h.1)]
      rw [hc]
      clear hc hmax hbf hneg hb hbc
      go_enter Tryz.func31, Tryz.ntmps31
      go_wp2_with fail
      refine (hN.out _).mono ?_
      rintro e w1 ⟨rfl, hg1⟩
      have HG1 := Lib.hid hg1
      clear hg1
      go_wp2_with fail
      go_ret2
      exact ⟨rfl, ((Chg.refl w []).alloc _).trans HG1.out⟩

set_option maxRecDepth 100000 in
theorem wit_count (F : Nat → Prop) (t : Tr) (v : Value) (w : World) (ht : ItemAt w F t v) (hF : ∀ b, F b → b < w.heap.size) (hn : ∀ b, t = .num b → NumOK b) :
    Calls Tryz.prog 31 #[.agg #[v]] w (CntPost (cntN t) w) := by
  by_cases hnum : ∃ b, t = .num b
  · obtain ⟨b, rfl⟩ := hnum
    have := hn b rfl
    simp only [ItemAt] at ht
    subst ht
    exact wit_count_num b this w
  · have hc : cntN t = none := by
      cases t with
      | num b => exact absurd ⟨b, rfl⟩ hnum
      | _ => rfl
    rw [hc]
    have hif := ht.iface
    obtain ⟨ti, tx, rfl⟩ := hif
    have hisn : isNum t = false := by
      cases t with
      | num b => exact absurd ⟨b, rfl⟩ hnum
      | _ => rfl
    have hN : Hid (∀ wx, Chg w wx [] → Calls Tryz.prog 55 #[.agg #[.iface ti tx]] wx fun e w' => (∃ x, e = .returned (.tuple #[.float .f64 x, .bool false])) ∧ Chg wx w' []) := Lib.hid fun wx h => by
      have := ref_Number F t _ wx (ItemAt.kept (h.keepsF hF (by simp)) (fun _ h => h) _ _ ht)
      rw [hisn] at this
      exact this.mono fun e w' h => ⟨⟨_, h.1⟩, h.2⟩
    clear ht hF hn hnum hc hisn
    go_enter Tryz.func31, Tryz.ntmps31
    go_wp2_with fail
    refine (hN.out _ ((Chg.refl w []).alloc _)).mono ?_
    rintro e w1 ⟨⟨x, rfl⟩, hg1⟩
    have HG1 := Lib.hid hg1
    clear hg1
    go_wp2_with fail
    go_ret2
    exact ⟨rfl, ((Chg.refl w []).alloc _).trans HG1.out⟩
end Go.Proofs.YtfdhgakalojahaaGreatDoor

namespace Go.Proofs.YtfdhgakalojahaaGreatDoor
open Go Go.RowKit

theorem cut_down (n d : Nat) : Ieee.Toward.down.cut false n d = n / 2 ^ d := by
  rw [← Fl.cut_zero]
  unfold Ieee.Toward.cut
  simp

theorem integral_down {b : Nat} (hb : b ≤ maxT) : (Ieee.double.read b).integral .down = .number false (Fl.tr b) 0 := by
  unfold maxT at hb
  rw [Fl.read_pos (by omega)]
  have hu := Fl.upN_le hb
  unfold Ieee.Datum.integral
  simp only
  rw [show (-1074 + (Fl.upN b : Int)).toNat = 0 from by omega, show (-(-1074 + (Fl.upN b : Int))).toNat = 1074 - Fl.upN b from by omega, Nat.shiftLeft_zero, cut_down]
  rfl

theorem run_archFloor (n : Nat) (w : World) : (callFunc 108 #[.float .f64 n]).run Tryz.prog w = (Extern.MathFloor.toIntegral "math.archFloor" .down #[.float .f64 n] >>= fun v => pure (.value v)).run Tryz.prog w := by kernel_rfl

section
attribute [local irreducible] FloatKind.decode FloatKind.encode
theorem toIntegral_number (name : String) (way : Ieee.Toward) (b : Nat) (s : Bool) (m : Nat) (i : Int) (hd : FloatKind.f64.decode b = .number s m i) :
    Extern.MathFloor.toIntegral name way #[.float .f64 b] = pure (.float .f64 (FloatKind.f64.encode ((Ieee.Datum.number s m i).integral way))) := by
  conv => lhs; whnf
  rw [hd]
end

theorem floor_run (b : Nat) (hb : b ≤ maxT) (w : World) : (callFunc 108 #[.float .f64 b]).run Tryz.prog w = .ok (.value (.float .f64 (Fl.wd (Fl.tr b)))) w := by
  have h := integral_down hb
  have hr := Fl.read_pos (b := b) (by unfold maxT at hb; omega)
  rw [run_archFloor, toIntegral_number _ _ b _ _ _ hr, ← hr, h]
  rfl

set_option maxRecDepth 100000 in
theorem math_Floor (b : Nat) (hb : b ≤ maxT) (w : World) : Calls Tryz.prog 80 #[.float .f64 b] w fun e w' => e = .returned (.float .f64 (Fl.wd (Fl.tr b))) ∧ w = w' := by
  have HT := fun w => floor_run b hb w
  clear hb
  go_enter Tryz.func80, Tryz.ntmps80
  go_wp2
  go_ret
  exact ⟨rfl, rfl⟩
end Go.Proofs.YtfdhgakalojahaaGreatDoor

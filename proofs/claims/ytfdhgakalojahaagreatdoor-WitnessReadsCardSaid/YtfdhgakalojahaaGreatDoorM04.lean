/- PLAIN: which words of 64 bits are NaNs, infinities, zeros; no program in sight. PLAIN: the words of 64 bits that say the whole numbers below 2 to the 53; no program in sight. PLAIN: words of 64 bits from nought on: their order, their whole part; no program in sight. -/
import Ieee.Arith
set_option linter.unusedSimpArgs false
set_option linter.unusedVariables false
set_option linter.unnecessarySimpa false
set_option linter.unusedSectionVars false
namespace Fl
open Ieee

def rung (n : Nat) : Nat := n % 9223372036854775808
def finB (n : Nat) : Bool := decide (rung n < 9218868437227405312)

theorem sw : double.signWeight = 9223372036854775808 := by decide
theorem bin : double.binade = 4503599627370496 := by decide
theorem inf : double.infRung = 9218868437227405312 := by decide

theorem order_self (n : Nat) : double.order n n = if rung n ≤ 9218868437227405312 then some .eq else none := by
  unfold Format.order Format.read
  simp only [sw, bin, inf]
  rw [show n % 9223372036854775808 = rung n from rfl]
  by_cases h1 : rung n < 4503599627370496
  · rw [if_pos h1, if_pos (by omega)]; simp [Datum.order]
  · rw [if_neg h1]
    by_cases h2 : rung n < 9218868437227405312
    · rw [if_pos h2, if_pos (by omega)]; simp [Datum.order]
    · rw [if_neg h2]
      by_cases h3 : rung n = 9218868437227405312
      · rw [if_pos h3, if_pos (by omega)]; simp [Datum.order]
      · rw [if_neg h3, if_neg (by omega)]; simp [Datum.order]

theorem isNaN_iff (n : Nat) : (double.order n n != some .eq) = decide (9218868437227405312 < rung n) := by
  rw [order_self]
  by_cases h : rung n ≤ 9218868437227405312
  · rw [if_pos h, decide_eq_false (by omega)]; decide
  · rw [if_neg h, decide_eq_true (by omega)]; decide

theorem not_gt {a b : Nat} (h : a ≤ b) : (some (compare (a : Int) (b : Int)) == some Ordering.gt) = false := by
  rw [beq_eq_false_iff_ne]
  intro g
  injection g with g
  rw [Int.compare_eq_gt] at g
  omega

theorem shl_ge (m k : Nat) : m ≤ m <<< k := by
  rw [Nat.shiftLeft_eq]
  exact Nat.le_mul_of_pos_right _ (Nat.two_pow_pos k)

theorem order_le (m n : Nat) (i j : Int) (hij : i ≤ j) (hmn : m ≤ n) : ((Datum.number false m i).order (.number false n j) == some .gt) = false := by
  simp only [Datum.order, signed]
  rw [show min i j = i from by omega]
  simp only [Int.sub_self, Int.toNat_zero, Nat.shiftLeft_zero, Bool.false_eq_true, if_false]
  exact not_gt (Nat.le_trans hmn (shl_ge _ _))

theorem least : double.leastPlace = -1074 := by decide

theorem isInf_iff (n : Nat) : (double.order (n % 9223372036854775808) 9218868437227405311 == some .gt) = decide (rung n = 9218868437227405312) := by
  rw [show n % 9223372036854775808 = rung n from rfl]
  have hr : rung n < 9223372036854775808 := Nat.mod_lt _ (by decide)
  have hm : double.read 9218868437227405311 = .number false 9007199254740991 971 := by decide
  unfold Format.order
  rw [hm]
  unfold Format.read
  simp only [sw, bin, inf]
  have e1 : rung n % 9223372036854775808 = rung n := Nat.mod_eq_of_lt hr
  have e2 : rung n / 9223372036854775808 = 0 := Nat.div_eq_of_lt hr
  rw [e1, e2]
  by_cases h1 : rung n < 4503599627370496
  · rw [if_pos h1, decide_eq_false (by omega)]
    rw [least]
    exact order_le _ _ _ _ (by decide) (by omega)
  · rw [if_neg h1]
    by_cases h2 : rung n < 9218868437227405312
    · rw [if_pos h2, decide_eq_false (by omega)]
      rw [least]
      exact order_le _ _ _ _ (by omega) (by omega)
    · rw [if_neg h2]
      by_cases h3 : rung n = 9218868437227405312
      · rw [if_pos h3, decide_eq_true h3]; simp [Datum.order]
      · rw [if_neg h3, decide_eq_false h3]; simp [Datum.order]

theorem fin_iff (n : Nat) : finB n = (!(double.order n n != some .eq) && !(double.order (n % 9223372036854775808) 9218868437227405311 == some .gt)) := by
  rw [isNaN_iff, isInf_iff, Bool.eq_iff_iff]
  unfold finB
  simp
  omega

theorem isZero_iff (n : Nat) : (double.order n 0 == some .eq) = decide (rung n = 0) := by
  have h0 : double.read 0 = .number false 0 (-1074) := by decide
  unfold Format.order
  rw [h0]
  unfold Format.read
  simp only [sw, bin, inf]
  rw [show n % 9223372036854775808 = rung n from rfl]
  by_cases h1 : rung n < 4503599627370496
  · rw [if_pos h1, least]
    simp only [Datum.order, signed]
    by_cases hz : rung n = 0
    · rw [hz]; cases (n / 9223372036854775808 % 2 == 1) <;> simp
    · rw [decide_eq_false hz]
      rw [beq_eq_false_iff_ne]
      intro g
      injection g with g
      simp only [Int.min_self, Int.sub_self, Int.toNat_zero, Nat.shiftLeft_zero] at g
      rw [Int.compare_eq_eq] at g
      cases hs : (n / 9223372036854775808 % 2 == 1) <;> rw [hs] at g <;> simp at g <;> omega
  · rw [if_neg h1, decide_eq_false (by omega)]
    by_cases h2 : rung n < 9218868437227405312
    · rw [if_pos h2]
      rw [beq_eq_false_iff_ne]
      simp only [Datum.order, signed]
      intro g
      injection g with g
      rw [Int.compare_eq_eq] at g
      rw [least] at g
      rw [show min (-1074 + ((rung n / 4503599627370496 - 1 : Nat) : Int)) (-1074) = -1074 from by omega] at g
      have hp := shl_ge (4503599627370496 + rung n % 4503599627370496) (-1074 + ((rung n / 4503599627370496 - 1 : Nat) : Int) - -1074).toNat
      cases hs : (n / 9223372036854775808 % 2 == 1) <;> rw [hs] at g <;> simp at g <;> omega
    · rw [if_neg h2]
      by_cases h3 : rung n = 9218868437227405312
      · rw [if_pos h3]; cases (n / 9223372036854775808 % 2 == 1) <;> simp [Datum.order]
      · rw [if_neg h3]; simp [Datum.order]
end Fl

namespace Fl
open Ieee

/-- the word of a whole number -/
def wd (k : Nat) : Nat := double.nearest false k 0

theorem cut_none (s : Bool) (n : Nat) : Toward.even.cut s n 0 = n := by
  simp [Toward.cut, Nat.mod_one]

theorem wd_zero : wd 0 = 0 := by decide

theorem frac : double.fractionBits = 52 := rfl

theorem pow_split {L : Nat} (h : L ≤ 52) : 2 ^ L * 2 ^ (52 - L) = 4503599627370496 := by
  rw [← Nat.pow_add, show L + (52 - L) = 52 from by omega]

theorem wide_bd {k : Nat} (h0 : k ≠ 0) (h : k < 9007199254740992) : k.log2 ≤ 52 ∧ 4503599627370496 ≤ k * 2 ^ (52 - k.log2) ∧ k * 2 ^ (52 - k.log2) < 9007199254740992 := by
  have h1 : 2 ^ k.log2 ≤ k := Nat.log2_self_le h0
  have h2 : k < 2 ^ (k.log2 + 1) := Nat.lt_log2_self
  have h3 : k.log2 ≤ 52 := by
    have : k.log2 < 53 := (Nat.log2_lt h0).2 h
    omega
  have h4 := pow_split h3
  have hp : 0 < 2 ^ (52 - k.log2) := Nat.two_pow_pos _
  refine ⟨h3, ?_, ?_⟩
  · rw [← h4]; exact Nat.mul_le_mul_right _ h1
  · have h5 : 2 ^ (k.log2 + 1) * 2 ^ (52 - k.log2) = 9007199254740992 := by rw [Nat.pow_succ, Nat.mul_comm (2 ^ k.log2) 2, Nat.mul_assoc, h4]
    rw [← h5]
    exact Nat.mul_lt_mul_of_pos_right h2 hp

theorem wd_pos {k : Nat} (h0 : k ≠ 0) (h : k < 9007199254740992) : wd k = (k.log2 + 1022) * 4503599627370496 + k * 2 ^ (52 - k.log2) := by
  obtain ⟨h1, h2, h3⟩ := wide_bd h0 h
  unfold wd Format.nearest
  rw [if_neg h0]
  simp only [frac, least, bin, inf]
  rw [show max ((0 : Int) + (k.log2 : Int) - ((52 : Nat) : Int)) (-1074) = (k.log2 : Int) - 52 from by omega]
  rw [show ((0 : Int) - ((k.log2 : Int) - 52)).toNat = 52 - k.log2 from by omega, show ((k.log2 : Int) - 52 - 0).toNat = 0 from by omega, cut_none,
    show ((k.log2 : Int) - 52 - -1074).toNat = k.log2 + 1022 from by omega, Nat.shiftLeft_eq]
  unfold Format.word
  simp only [Bool.false_eq_true, if_false]
  omega

theorem wd_lt {k : Nat} (h : k < 9007199254740992) : wd k < 9218868437227405312 := by
  by_cases h0 : k = 0
  · subst h0; rw [wd_zero]; decide
  · obtain ⟨h1, h2, h3⟩ := wide_bd h0 h
    rw [wd_pos h0 h]
    omega

theorem rung_wd {k : Nat} (h : k < 9007199254740992) : rung (wd k) = wd k := by
  have := wd_lt h
  unfold rung
  omega

theorem fin_wd {k : Nat} (h : k < 9007199254740992) : finB (wd k) = true := by
  unfold finB
  rw [rung_wd h]
  exact decide_eq_true (wd_lt h)

theorem wd_ne_zero {k : Nat} (h0 : k ≠ 0) (h : k < 9007199254740992) : wd k ≠ 0 := by
  obtain ⟨h1, h2, h3⟩ := wide_bd h0 h
  rw [wd_pos h0 h]
  omega

theorem read_wd {k : Nat} (h0 : k ≠ 0) (h : k < 9007199254740992) : double.read (wd k) = .number false (k * 2 ^ (52 - k.log2)) ((k.log2 : Int) - 52) := by
  obtain ⟨h1, h2, h3⟩ := wide_bd h0 h
  have h4 := wd_lt h
  unfold Format.read
  simp only [sw, bin, inf, least]
  have e1 : wd k % 9223372036854775808 = wd k := rung_wd h
  have e2 : wd k / 9223372036854775808 = 0 := Nat.div_eq_of_lt (by omega)
  have e3 := wd_pos h0 h
  rw [e1, e2]
  rw [if_neg (by omega), if_pos h4]
  have e4 : wd k % 4503599627370496 = k * 2 ^ (52 - k.log2) - 4503599627370496 := by omega
  have e5 : wd k / 4503599627370496 = k.log2 + 1023 := by omega
  rw [e4, e5]
  rw [show 4503599627370496 + (k * 2 ^ (52 - k.log2) - 4503599627370496) = k * 2 ^ (52 - k.log2) from by omega, show (-1074 : Int) + ((k.log2 + 1023 - 1 : Nat) : Int) = (k.log2 : Int) - 52 from by omega]
  rfl

theorem read_zero : double.read 0 = .number false 0 (-1074) := by decide

theorem toInt_wd {k : Nat} (h : k < 9007199254740992) : (double.read (wd k)).toInt .zero = some (k : Int) := by
  by_cases h0 : k = 0
  · subst h0; rw [wd_zero, read_zero]; decide
  · obtain ⟨h1, h2, h3⟩ := wide_bd h0 h
    rw [read_wd h0 h]
    unfold Datum.toInt Datum.integral
    simp only
    rw [show ((k.log2 : Int) - 52).toNat = 0 from by omega, show (-((k.log2 : Int) - 52)).toNat = 52 - k.log2 from by omega, Nat.shiftLeft_zero]
    have hl : (k * 2 ^ (52 - k.log2)).log2 = 52 := by
      rw [Nat.log2_eq_iff (by omega)]
      omega
    have hc : Toward.zero.cut false (k * 2 ^ (52 - k.log2)) (52 - k.log2) = k := by
      unfold Toward.cut
      simp only [hl]
      rw [show min (52 - k.log2) (52 + 2) = 52 - k.log2 from by omega, Nat.shiftLeft_eq, Nat.one_mul, Nat.mul_div_cancel _ (Nat.two_pow_pos _)]
      rfl
    rw [hc]
    simp [signed]

theorem order_wd_zero {k : Nat} (h : k < 9007199254740992) : (double.order (wd k) 0 == some .lt) = false := by
  by_cases h0 : k = 0
  · subst h0; rw [wd_zero]; decide
  · unfold Format.order
    rw [read_wd h0 h, read_zero]
    simp only [Datum.order, signed]
    rw [beq_eq_false_iff_ne]
    intro g
    injection g with g
    rw [Int.compare_eq_lt] at g
    simp only [Bool.false_eq_true, if_false, Nat.zero_shiftLeft] at g
    exact absurd g (Int.not_lt.2 (Int.natCast_nonneg _))

theorem order_wd_max {k : Nat} (h : k < 9007199254740992) : (double.order (wd k) (wd 9007199254740991) == some .gt) = false := by
  have hm : double.read (wd 9007199254740991) = .number false 9007199254740991 0 := by
    rw [read_wd (by decide) (by decide)]; decide
  unfold Format.order
  rw [hm]
  by_cases h0 : k = 0
  · subst h0; rw [wd_zero, read_zero]; decide
  · obtain ⟨h1, h2, h3⟩ := wide_bd h0 h
    rw [read_wd h0 h]
    simp only [Datum.order, signed]
    rw [show min ((k.log2 : Int) - 52) 0 = (k.log2 : Int) - 52 from by omega]
    rw [show ((k.log2 : Int) - 52 - ((k.log2 : Int) - 52)).toNat = 0 from by omega, show ((0 : Int) - ((k.log2 : Int) - 52)).toNat = 52 - k.log2 from by omega]
    simp only [Bool.false_eq_true, if_false, Nat.shiftLeft_zero, Nat.shiftLeft_eq, Nat.pow_zero, Nat.mul_one]
    exact not_gt (Nat.mul_le_mul_right _ (by omega))

theorem order_wd_self {k : Nat} (h : k < 9007199254740992) : double.order (wd k) (wd k) = some .eq := by
  rw [order_self, rung_wd h, if_pos (Nat.le_of_lt (wd_lt h))]
end Fl

namespace Fl
open Ieee

def mant (b : Nat) : Nat := if b < 4503599627370496 then b else 4503599627370496 + b % 4503599627370496
def upN (b : Nat) : Nat := if b < 4503599627370496 then 0 else b / 4503599627370496 - 1
def val (b : Nat) : Nat := mant b * 2 ^ upN b

theorem read_pos {b : Nat} (h : b < 9218868437227405312) : double.read b = .number false (mant b) (-1074 + (upN b : Int)) := by
  unfold Format.read
  simp only [sw, bin, inf, least]
  have e1 : b % 9223372036854775808 = b := Nat.mod_eq_of_lt (by omega)
  have e2 : b / 9223372036854775808 = 0 := Nat.div_eq_of_lt (by omega)
  rw [e1, e2]
  unfold mant upN
  by_cases h1 : b < 4503599627370496
  · rw [if_pos h1, if_pos h1, if_pos h1]; rfl
  · rw [if_neg h1, if_neg h1, if_neg h1, if_pos h]; rfl

theorem val_mono {a b : Nat} (h : a < b) : val a < val b := by
  unfold val mant upN
  by_cases h1 : b < 4503599627370496
  · rw [if_pos h1, if_pos h1, if_pos (by omega), if_pos (by omega)]; omega
  · rw [if_neg h1, if_neg h1]
    have hp : 0 < 2 ^ (b / 4503599627370496 - 1) := Nat.two_pow_pos _
    have hb : (4503599627370496 + b % 4503599627370496) * 1 ≤ (4503599627370496 + b % 4503599627370496) * 2 ^ (b / 4503599627370496 - 1) := Nat.mul_le_mul_left _ hp
    by_cases h2 : a < 4503599627370496
    · rw [if_pos h2, if_pos h2]; omega
    · rw [if_neg h2, if_neg h2]
      by_cases h3 : a / 4503599627370496 = b / 4503599627370496
      · rw [h3]
        exact Nat.mul_lt_mul_of_pos_right (by omega) hp
      · have h4 : a / 4503599627370496 < b / 4503599627370496 := by
          have := Nat.div_le_div_right (c := 4503599627370496) (Nat.le_of_lt h)
          omega
        have h5 : (4503599627370496 + a % 4503599627370496) * 2 ^ (a / 4503599627370496 - 1) < 9007199254740992 * 2 ^ (a / 4503599627370496 - 1) := Nat.mul_lt_mul_of_pos_right (by omega) (Nat.two_pow_pos _)
        have h6 : 9007199254740992 * 2 ^ (a / 4503599627370496 - 1) = 4503599627370496 * 2 ^ (a / 4503599627370496) := by
          obtain ⟨k, hk⟩ : ∃ k, a / 4503599627370496 = k + 1 := ⟨a / 4503599627370496 - 1, by omega⟩
          rw [hk, Nat.add_sub_cancel, Nat.pow_succ]; omega
        have h7 : 2 ^ (a / 4503599627370496) ≤ 2 ^ (b / 4503599627370496 - 1) := Nat.pow_le_pow_right (by omega) (by omega)
        have h8 : 4503599627370496 * 2 ^ (a / 4503599627370496) ≤ (4503599627370496 + b % 4503599627370496) * 2 ^ (b / 4503599627370496 - 1) := Nat.mul_le_mul (by omega) h7
        omega

theorem val_lt {a b : Nat} : val a < val b ↔ a < b := by
  constructor
  · intro h
    rcases Nat.lt_trichotomy a b with g | g | g
    · exact g
    · subst g; omega
    · have := val_mono g; omega
  · exact val_mono

theorem order_pos {a b : Nat} (ha : a < 9218868437227405312) (hb : b < 9218868437227405312) :
    ∃ x y p : Nat, 0 < p ∧ val a = x * p ∧ val b = y * p ∧ double.order a b = some (compare (x : Int) (y : Int)) := by
  unfold Format.order
  rw [read_pos ha, read_pos hb]
  simp only [Datum.order, signed, Bool.false_eq_true, if_false]
  have e : min (-1074 + (upN a : Int)) (-1074 + (upN b : Int)) = -1074 + ((min (upN a) (upN b) : Nat) : Int) := by omega
  rw [e]
  have e1 : (-1074 + (upN a : Int) - (-1074 + ((min (upN a) (upN b) : Nat) : Int))).toNat = upN a - min (upN a) (upN b) := by omega
  have e2 : (-1074 + (upN b : Int) - (-1074 + ((min (upN a) (upN b) : Nat) : Int))).toNat = upN b - min (upN a) (upN b) := by omega
  rw [e1, e2, Nat.shiftLeft_eq, Nat.shiftLeft_eq]
  refine ⟨_, _, 2 ^ min (upN a) (upN b), Nat.two_pow_pos _, ?_, ?_, rfl⟩
  · unfold val; rw [Nat.mul_assoc, ← Nat.pow_add]; congr 2; omega
  · unfold val; rw [Nat.mul_assoc, ← Nat.pow_add]; congr 2; omega

theorem order_lt {a b : Nat} (ha : a < 9218868437227405312) (hb : b < 9218868437227405312) : (double.order a b == some .lt) = decide (a < b) := by
  obtain ⟨x, y, p, hp, h1, h2, h3⟩ := order_pos ha hb
  rw [h3, Bool.eq_iff_iff, beq_iff_eq, Option.some.injEq, Int.compare_eq_lt, decide_eq_true_eq, ← val_lt, h1, h2, Nat.mul_lt_mul_right hp]
  omega

theorem order_gt {a b : Nat} (ha : a < 9218868437227405312) (hb : b < 9218868437227405312) : (double.order a b == some .gt) = decide (b < a) := by
  obtain ⟨x, y, p, hp, h1, h2, h3⟩ := order_pos ha hb
  rw [h3, Bool.eq_iff_iff, beq_iff_eq, Option.some.injEq, Int.compare_eq_gt, decide_eq_true_eq, ← val_lt, h1, h2, Nat.mul_lt_mul_right hp]
  omega

theorem order_eq {a b : Nat} (ha : a < 9218868437227405312) (hb : b < 9218868437227405312) : (double.order a b == some .eq) = decide (a = b) := by
  obtain ⟨x, y, p, hp, h1, h2, h3⟩ := order_pos ha hb
  rw [h3, Bool.eq_iff_iff, beq_iff_eq, Option.some.injEq, Int.compare_eq_eq, decide_eq_true_eq]
  constructor
  · intro h
    have hxy : x = y := by omega
    have hv : val a = val b := by rw [h1, h2, hxy]
    rcases Nat.lt_trichotomy a b with g | g | g
    · have := val_mono g; omega
    · exact g
    · have := val_mono g; omega
  · intro h
    subst h
    have := Nat.eq_of_mul_eq_mul_right hp (h1.symm.trans h2)
    omega

theorem order_ne {a b : Nat} (ha : a < 9218868437227405312) (hb : b < 9218868437227405312) : (double.order a b != some .eq) = !decide (a = b) := by
  unfold bne
  rw [order_eq ha hb]

/-- the whole part -/
def tr (b : Nat) : Nat := mant b / 2 ^ (1074 - upN b)

theorem cut_zero (n d : Nat) : Toward.zero.cut false n d = n / 2 ^ d := by
  unfold Toward.cut
  simp only [Nat.shiftLeft_eq, Nat.one_mul, Bool.toNat_false, Nat.add_zero]
  by_cases h : d ≤ n.log2 + 2
  · rw [Nat.min_eq_left h]
  · rw [Nat.min_eq_right (by omega)]
    have h1 : n < 2 ^ (n.log2 + 1) := Nat.lt_log2_self
    have h2 : 2 ^ (n.log2 + 1) ≤ 2 ^ (n.log2 + 2) := Nat.pow_le_pow_right (by omega) (by omega)
    have h3 : 2 ^ (n.log2 + 1) ≤ 2 ^ d := Nat.pow_le_pow_right (by omega) (by omega)
    rw [Nat.div_eq_of_lt (by omega), Nat.div_eq_of_lt (by omega)]

theorem upN_le {b : Nat} (h : b ≤ 4845873199050653695) : upN b ≤ 1074 := by unfold upN; split <;> omega

theorem toInt_pos {b : Nat} (h : b ≤ 4845873199050653695) : (double.read b).toInt .zero = some (tr b : Int) := by
  rw [read_pos (by omega)]
  have hu := upN_le h
  unfold Datum.toInt Datum.integral
  simp only
  rw [show (-1074 + (upN b : Int)).toNat = 0 from by omega, show (-(-1074 + (upN b : Int))).toNat = 1074 - upN b from by omega, Nat.shiftLeft_zero, cut_zero]
  simp [signed, tr]

theorem tr_lt {b : Nat} (h : b ≤ 4845873199050653695) : tr b < 9007199254740992 := by
  unfold tr
  have h1 : mant b < 9007199254740992 := by unfold mant; split <;> omega
  exact Nat.lt_of_le_of_lt (Nat.div_le_self _ _) h1

theorem tr_small {b : Nat} (h : b < 4607182418800017408) : tr b = 0 := by
  unfold tr
  have hm : mant b < 9007199254740992 := by unfold mant; split <;> omega
  have hu : upN b ≤ 1021 := by unfold upN; split <;> omega
  apply Nat.div_eq_of_lt
  have : 2 ^ 53 ≤ 2 ^ (1074 - upN b) := Nat.pow_le_pow_right (by omega) (by omega)
  have : (2 : Nat) ^ 53 = 9007199254740992 := by decide
  omega

/-- the word of the whole part of what is one or more -/
theorem wd_tr {b : Nat} (h1 : 4607182418800017408 ≤ b) (h2 : b ≤ 4845873199050653695) : wd (tr b) = b - b % 2 ^ (1075 - b / 4503599627370496) := by
  obtain ⟨E, hE⟩ : ∃ E, E = b / 4503599627370496 := ⟨_, rfl⟩
  have hE1 : 1023 ≤ E ∧ E ≤ 1075 := by omega
  obtain ⟨s, hs⟩ : ∃ s, s = 1075 - E := ⟨_, rfl⟩
  have hs52 : s ≤ 52 := by omega
  have hm : mant b = 4503599627370496 + b % 4503599627370496 := by unfold mant; rw [if_neg (by omega)]
  have hu : 1074 - upN b = s := by unfold upN; rw [if_neg (by omega), ← hE]; omega
  obtain ⟨m, hmm⟩ : ∃ m, m = mant b := ⟨_, rfl⟩
  have hbm : b = (E - 1) * 4503599627370496 + m := by rw [hmm, hm]; have := Nat.div_add_mod b 4503599627370496; rw [← hE] at this; omega
  have hm1 : 4503599627370496 ≤ m ∧ m < 9007199254740992 := by rw [hmm, hm]; omega
  have htr : tr b = m / 2 ^ s := by unfold tr; rw [← hmm, hu]
  have hps : 2 ^ s * 2 ^ (52 - s) = 4503599627370496 := pow_split hs52
  have hp : 0 < 2 ^ s := Nat.two_pow_pos _
  have hlog : (m / 2 ^ s).log2 = 52 - s := by
    have hk0 : m / 2 ^ s ≠ 0 := by
      have : 2 ^ s ≤ m := Nat.le_trans (by rw [← hps]; exact Nat.le_mul_of_pos_right _ (Nat.two_pow_pos _)) hm1.1
      have := Nat.div_pos this hp
      omega
    rw [Nat.log2_eq_iff hk0]
    constructor
    · rw [Nat.le_div_iff_mul_le hp, Nat.mul_comm, hps]; exact hm1.1
    · rw [Nat.div_lt_iff_lt_mul hp, Nat.pow_succ, Nat.mul_assoc, Nat.mul_comm 2, ← Nat.mul_assoc, Nat.mul_comm (2 ^ (52 - s)), hps]; omega
  have hk0 : m / 2 ^ s ≠ 0 := by
    intro h0
    have := (Nat.div_eq_zero_iff).1 h0
    have : 2 ^ s ≤ m := Nat.le_trans (by rw [← hps]; exact Nat.le_mul_of_pos_right _ (Nat.two_pow_pos _)) hm1.1
    omega
  have hklt : m / 2 ^ s < 9007199254740992 := Nat.lt_of_le_of_lt (Nat.div_le_self _ _) hm1.2
  rw [htr, wd_pos hk0 hklt, hlog, show 52 - (52 - s) = s from by omega]
  have hdm := Nat.div_add_mod m (2 ^ s)
  have hmod : b % 2 ^ s = m % 2 ^ s := by
    rw [hbm, show (E - 1) * 4503599627370496 = 2 ^ s * (2 ^ (52 - s) * (E - 1)) from by rw [← Nat.mul_assoc, hps, Nat.mul_comm], Nat.mul_add_mod]
  rw [show 1075 - b / 4503599627370496 = s from by rw [← hE]; omega, hmod, hbm, Nat.mul_comm (m / 2 ^ s)]
  rw [show 52 - s + 1022 = E - 1 from by omega]
  omega
end Fl

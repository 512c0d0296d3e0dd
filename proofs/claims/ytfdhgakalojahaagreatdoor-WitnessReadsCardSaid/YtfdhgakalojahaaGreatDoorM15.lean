/- WALKS: the reference's layer 2: roots of primes. WALKS: the reference's layer 2: is a number's cube too great? WALKS: the reference's layer 2: roots. CLOSED: the roots of the first primes, by the kernel. -/
import Derived.Outline
import Derived.Deep.Light
import Derived.BigQuiet
import Derived.Deep.QuietTactic
import Derived.Test.YtfdhgakalojahaaGreatDoorM14
import Derived.Test.YtfdhgakalojahaaGreatDoorM03
import Derived.KernelRfl
set_option linter.unusedSimpArgs false
set_option linter.unusedVariables false
set_option linter.unnecessarySimpa false
set_option linter.unusedSectionVars false
namespace Go.Proofs.YtfdhgakalojahaaGreatDoor
open Go Go.RowKit

theorem mul64 (x y : Nat) (hx : x < 18446744073709551616) (hy : y < 18446744073709551616) (w : World) :
    Calls Tryz.prog 171 #[.int .u64 x, .int .u64 y] w fun e w' => e = .returned (.tuple #[.int .u64 ((x * y / 18446744073709551616 : Nat) : Int), .int .u64 ((x * y % 18446744073709551616 : Nat) : Int)]) ∧ w = w' := by
  have h := Any.bits_Mul64 Tryz.mul64 x y hx hy w
  change Calls Tryz.prog 171 _ _ _ at h
  exact h.mono fun _ _ h => ⟨h.1, h.2.symm⟩

def squareB (s p : Nat) : Bool := decide (s * s ≤ p * 18446744073709551616)

set_option maxRecDepth 100000 in
set_option maxHeartbeats 1000000 in
theorem r2_square (s p : Nat) (hs : s < 1099511627776) (hp : p < 512) (w : World) :
    Calls Tryz.prog 169 #[.int .u64 s, .int .u64 p] w fun e w' => e = .returned (.bool (squareB s p)) ∧ w = w' := by
  obtain ⟨hi, hhi⟩ : ∃ hi, hi = s * s / 18446744073709551616 := ⟨_, rfl⟩
  obtain ⟨lo, hlo⟩ : ∃ lo, lo = s * s % 18446744073709551616 := ⟨_, rfl⟩
  have hq : s * s = hi * 18446744073709551616 + lo := by omega
  have hl : lo < 18446744073709551616 := by omega
  have HM : Hid (∀ w, Calls Tryz.prog 171 #[.int .u64 s, .int .u64 s] w fun e w' => e = .returned (.tuple #[.int .u64 hi, .int .u64 lo]) ∧ w = w') := by
    intro w; rw [hhi, hlo]; exact mul64 s s (by omega) (by omega) w
  have HB : Hid (squareB s p = decide (hi < p ∨ (hi = p ∧ lo = 0))) := by
    unfold Hid squareB; rw [hq]; rw [decide_eq_decide]; omega
  have hhb : hi < 18446744073709551616 := by
    have : s * s ≤ 1099511627776 * 1099511627776 := Nat.mul_le_mul (by omega) (by omega)
    omega
  clear hhi hlo hq
  by_cases h1 : hi < p
  · have h1' : (hi : Int) < (p : Int) := by omega
    go_enter Tryz.func169, Tryz.ntmps169
    go_wp2_with (first | (go_at_call 171; (with_reducible refine (HM.out _).mono ?_); rintro e w' ⟨rfl, rfl⟩))
    go_ret
    refine ⟨ret_bool ?_, rfl⟩
    rw [HB.out]
    go_light
    simp [h1]
  · by_cases h2 : hi = p
    · by_cases h3 : lo = 0
      · have e1 : ((hi : Int) == (p : Int)) = true := by simp [h2]
        have e2 : ((lo : Int) == 0) = true := by simp [h3]
        have H2 := Lib.hid h2
        have H3 := Lib.hid h3
        clear h2 h3
        go_enter Tryz.func169, Tryz.ntmps169
        go_wp2_with (first | (go_at_call 171; (with_reducible refine (HM.out _).mono ?_); rintro e w' ⟨rfl, rfl⟩))
        go_ret
        refine ⟨ret_bool ?_, rfl⟩
        rw [HB.out]
        simp [H2.out, H3.out]
      · have e1 : ((hi : Int) == (p : Int)) = true := by simp [h2]
        have e2 : ((lo : Int) == 0) = false := by simp [h3]
        have H2 := Lib.hid h2
        have H3 := Lib.hid h3
        clear h2 h3
        go_enter Tryz.func169, Tryz.ntmps169
        go_wp2_with (first | (go_at_call 171; (with_reducible refine (HM.out _).mono ?_); rintro e w' ⟨rfl, rfl⟩))
        go_ret
        refine ⟨ret_bool ?_, rfl⟩
        rw [HB.out]
        simp [H2.out, H3.out]
    · have e1 : ((hi : Int) == (p : Int)) = false := by rw [beq_eq_false_iff_ne]; omega
      have H2 := Lib.hid h2
      clear h2
      go_enter Tryz.func169, Tryz.ntmps169
      go_wp2_with (first | (go_at_call 171; (with_reducible refine (HM.out _).mono ?_); rintro e w' ⟨rfl, rfl⟩))
      go_ret
      refine ⟨ret_bool ?_, rfl⟩
      rw [HB.out]
      go_light
      simp [h1, H2.out]
end Go.Proofs.YtfdhgakalojahaaGreatDoor

namespace Go.Proofs.YtfdhgakalojahaaGreatDoor
open Go Go.RowKit

def cubeB (s p : Nat) : Bool := decide (s * s * s ≤ p * 79228162514264337593543950336)

section
variable (s p hi lo top low hs tt : Nat) (hp : p < 512) (hhs : (hs : Int) ≤ 20000000000000) (htt : (tt : Int) ≤ 40000000000000)
  (HM : Hid (∀ w, Calls Tryz.prog 171 #[.int .u64 s, .int .u64 s] w fun e w' => e = .returned (.tuple #[.int .u64 hi, .int .u64 lo]) ∧ w = w'))
  (HM2 : Hid (∀ w, Calls Tryz.prog 171 #[.int .u64 lo, .int .u64 s] w fun e w' => e = .returned (.tuple #[.int .u64 top, .int .u64 low]) ∧ w = w'))
  (hmul : (hi : Int) * (s : Int) = (hs : Int)) (hsum : (top : Int) + (hs : Int) = (tt : Int)) (w : World)
include hp hhs htt HM HM2 hmul hsum

set_option maxRecDepth 100000 in
theorem cube_walk1 (h1 : (tt : Int) < (p : Int) * 4294967296) :
    Calls Tryz.prog 168 #[.int .u64 s, .int .u64 p] w fun e w' => e = .returned (.bool true) ∧ w = w' := by
  go_enter Tryz.func168, Tryz.ntmps168
  go_wp2_with (first | (go_at_call 171; first | ((with_reducible refine (HM.out _).mono ?_); rintro e w' ⟨rfl, rfl⟩) | ((with_reducible refine (HM2.out _).mono ?_); rintro e w' ⟨rfl, rfl⟩)))
  go_ret
  exact ⟨rfl, rfl⟩

set_option maxRecDepth 100000 in
theorem cube_walk2 (h1 : decide ((tt : Int) < (p : Int) * 4294967296) = false) (e1 : ((tt : Int) == (p : Int) * 4294967296) = true) (e2 : ((low : Int) == 0) = true) :
    Calls Tryz.prog 168 #[.int .u64 s, .int .u64 p] w fun e w' => e = .returned (.bool true) ∧ w = w' := by
  go_enter Tryz.func168, Tryz.ntmps168
  go_wp2_with (first | (go_at_call 171; first | ((with_reducible refine (HM.out _).mono ?_); rintro e w' ⟨rfl, rfl⟩) | ((with_reducible refine (HM2.out _).mono ?_); rintro e w' ⟨rfl, rfl⟩)))
  go_ret
  exact ⟨rfl, rfl⟩

set_option maxRecDepth 100000 in
theorem cube_walk3 (h1 : decide ((tt : Int) < (p : Int) * 4294967296) = false) (e1 : ((tt : Int) == (p : Int) * 4294967296) = true) (e2 : ((low : Int) == 0) = false) :
    Calls Tryz.prog 168 #[.int .u64 s, .int .u64 p] w fun e w' => e = .returned (.bool false) ∧ w = w' := by
  go_enter Tryz.func168, Tryz.ntmps168
  go_wp2_with (first | (go_at_call 171; first | ((with_reducible refine (HM.out _).mono ?_); rintro e w' ⟨rfl, rfl⟩) | ((with_reducible refine (HM2.out _).mono ?_); rintro e w' ⟨rfl, rfl⟩)))
  go_ret
  exact ⟨rfl, rfl⟩

set_option maxRecDepth 100000 in
theorem cube_walk4 (h1 : decide ((tt : Int) < (p : Int) * 4294967296) = false) (e1 : ((tt : Int) == (p : Int) * 4294967296) = false) :
    Calls Tryz.prog 168 #[.int .u64 s, .int .u64 p] w fun e w' => e = .returned (.bool false) ∧ w = w' := by
  go_enter Tryz.func168, Tryz.ntmps168
  go_wp2_with (first | (go_at_call 171; first | ((with_reducible refine (HM.out _).mono ?_); rintro e w' ⟨rfl, rfl⟩) | ((with_reducible refine (HM2.out _).mono ?_); rintro e w' ⟨rfl, rfl⟩)))
  go_ret
  exact ⟨rfl, rfl⟩
end

theorem cube_plain (s p hi lo top low : Nat) (hq : s * s = hi * 18446744073709551616 + lo) (hq2 : lo * s = top * 18446744073709551616 + low) (hl : low < 18446744073709551616) :
    cubeB s p = decide (top + hi * s < p * 4294967296 ∨ (top + hi * s = p * 4294967296 ∧ low = 0)) := by
  have hcube : s * s * s = (top + hi * s) * 18446744073709551616 + low := by
    have h1 : s * s * s = (hi * 18446744073709551616 + lo) * s := by rw [← hq]
    have h2 : (hi * 18446744073709551616 + lo) * s = hi * 18446744073709551616 * s + lo * s := Nat.add_mul _ _ _
    have h3 : hi * 18446744073709551616 * s = hi * s * 18446744073709551616 := Nat.mul_right_comm _ _ _
    have h4 : (top + hi * s) * 18446744073709551616 = top * 18446744073709551616 + hi * s * 18446744073709551616 := Nat.add_mul _ _ _
    omega
  unfold cubeB
  rw [decide_eq_decide, hcube]
  generalize hi * s = x
  omega

theorem r2_cube (s p : Nat) (hs : s < 68719476736) (hp : p < 512) (w : World) :
    Calls Tryz.prog 168 #[.int .u64 s, .int .u64 p] w fun e w' => e = .returned (.bool (cubeB s p)) ∧ w = w' := by
  have hss : s * s ≤ 68719476736 * 68719476736 := Nat.mul_le_mul (by omega) (by omega)
  obtain ⟨hi, hhi⟩ : ∃ hi, hi = s * s / 18446744073709551616 := ⟨_, rfl⟩
  obtain ⟨lo, hlo⟩ : ∃ lo, lo = s * s % 18446744073709551616 := ⟨_, rfl⟩
  have hq : s * s = hi * 18446744073709551616 + lo := by omega
  have hl : lo < 18446744073709551616 := by omega
  have hib : hi ≤ 256 := by omega
  have HM : Hid (∀ w, Calls Tryz.prog 171 #[.int .u64 s, .int .u64 s] w fun e w' => e = .returned (.tuple #[.int .u64 hi, .int .u64 lo]) ∧ w = w') := by
    intro w; rw [hhi, hlo]; exact mul64 s s (by omega) (by omega) w
  have hls : lo * s ≤ 18446744073709551616 * 68719476736 := Nat.mul_le_mul (by omega) (by omega)
  obtain ⟨top, htop⟩ : ∃ top, top = lo * s / 18446744073709551616 := ⟨_, rfl⟩
  obtain ⟨low, hlow⟩ : ∃ low, low = lo * s % 18446744073709551616 := ⟨_, rfl⟩
  have HM2 : Hid (∀ w, Calls Tryz.prog 171 #[.int .u64 lo, .int .u64 s] w fun e w' => e = .returned (.tuple #[.int .u64 top, .int .u64 low]) ∧ w = w') := by
    intro w; rw [htop, hlow]; exact mul64 lo s (by omega) (by omega) w
  have hq2 : lo * s = top * 18446744073709551616 + low := by omega
  have hlw : low < 18446744073709551616 := by omega
  have htb : top ≤ 20000000000000 := by omega
  have hhb : hi * s ≤ 256 * 68719476736 := Nat.mul_le_mul hib (by omega)
  have hB := cube_plain s p hi lo top low hq hq2 hlw
  clear hhi hlo hq hss htop hlow hq2 hls
  obtain ⟨hs', hhs⟩ : ∃ x, x = hi * s := ⟨_, rfl⟩
  rw [← hhs] at hB hhb
  have hmul : (hi : Int) * (s : Int) = (hs' : Int) := by rw [hhs]; exact (Int.natCast_mul hi s).symm
  rw [hB]
  by_cases h1 : top + hs' < p * 4294967296
  · rw [decide_eq_true (.inl h1)]
    exact cube_walk1 s p hi lo top low hs' (top + hs') hp (by omega) (by omega) HM HM2 hmul (by omega) w (by omega)
  · by_cases h2 : top + hs' = p * 4294967296
    · by_cases h3 : low = 0
      · rw [decide_eq_true (.inr ⟨h2, h3⟩)]
        exact cube_walk2 s p hi lo top low hs' (top + hs') hp (by omega) (by omega) HM HM2 hmul (by omega) w (decide_eq_false (by omega)) (by rw [beq_iff_eq]; omega) (by rw [beq_iff_eq]; omega)
      · rw [decide_eq_false (by omega)]
        exact cube_walk3 s p hi lo top low hs' (top + hs') hp (by omega) (by omega) HM HM2 hmul (by omega) w (decide_eq_false (by omega)) (by rw [beq_iff_eq]; omega) (by rw [beq_eq_false_iff_ne]; omega)
    · rw [decide_eq_false (by omega)]
      exact cube_walk4 s p hi lo top low hs' (top + hs') hp (by omega) (by omega) HM HM2 hmul (by omega) w (decide_eq_false (by omega)) (by rw [beq_eq_false_iff_ne]; omega)
end Go.Proofs.YtfdhgakalojahaaGreatDoor

namespace Go.Proofs.YtfdhgakalojahaaGreatDoor
open Go Go.RowKit

def okB (three : Bool) (t p : Nat) : Bool := if three then decide (t < 68719476736) && cubeB t p else squareB t p

/-- the root's first digits, k of them looked at -/
def rootN (three : Bool) (p : Nat) : Nat → Nat
  | 0 => 0
  | k + 1 => if okB three (rootN three p k + 2 ^ (39 - k)) p then rootN three p k + 2 ^ (39 - k) else rootN three p k

theorem rootN_inv (three : Bool) (p : Nat) : ∀ k, k ≤ 40 → ∃ q, rootN three p k = q * 2 ^ (40 - k) ∧ q < 2 ^ k
  | 0, _ => ⟨0, by simp [rootN], by decide⟩
  | k + 1, h => by
    obtain ⟨q, h1, h2⟩ := rootN_inv three p k (by omega)
    have e : 2 ^ (40 - k) = 2 * 2 ^ (40 - (k + 1)) := by
      rw [show 40 - k = (40 - (k + 1)) + 1 from by omega, Nat.pow_succ, Nat.mul_comm]
    have e2 : (2 : Nat) ^ (k + 1) = 2 * 2 ^ k := by rw [Nat.pow_succ, Nat.mul_comm]
    have e3 : 39 - k = 40 - (k + 1) := by omega
    unfold rootN
    rw [h1, e, e3]
    split
    · refine ⟨2 * q + 1, ?_, by omega⟩
      rw [Nat.add_mul, Nat.one_mul, Nat.mul_assoc 2 q, Nat.mul_left_comm]
    · refine ⟨2 * q, ?_, by omega⟩
      rw [Nat.mul_assoc 2 q, Nat.mul_left_comm]

theorem or_bit (q i : Nat) (hi : i ≤ 39) (hq : q * 2 ^ (i + 1) < 1099511627776) : bits BinOp.or IntKind.u64 ((q * 2 ^ (i + 1) : Nat) : Int) (IntKind.u64.wrap (2 ^ i)) = ((q * 2 ^ (i + 1) + 2 ^ i : Nat) : Int) := by
  have hp : (2 : Nat) ^ i ≤ 2 ^ 39 := Nat.pow_le_pow_right (by decide) hi
  have hp' : (2 : Nat) ^ i ≤ 549755813888 := hp
  rw [show ((2 : Int) ^ i) = (((2 ^ i : Nat)) : Int) from by simp, IntWalk.u64_in _ ⟨Int.natCast_nonneg _, Int.ofNat_le.2 (show 2 ^ i ≤ 18446744073709551615 by omega)⟩, bits_or_u64_nat _ _ (by omega) (by omega)]
  congr 1
  have := Nat.shiftLeft_add_eq_or_of_lt (a := q) (b := 2 ^ i) (i := i + 1) (by rw [Nat.pow_succ]; have := Nat.two_pow_pos i; omega)
  rw [Nat.shiftLeft_eq] at this
  exact this.symm

theorem root_step (three : Bool) (p k i : Nat) (hk : k < 40) (hi : (39 : Int) - k = i) : rootN three p k + 2 ^ i < 1099511627776 ∧ bits BinOp.or IntKind.u64 ((rootN three p k : Nat) : Int) (IntKind.u64.wrap (2 ^ i)) = ((rootN three p k + 2 ^ i : Nat) : Int) ∧
    rootN three p (k + 1) = if okB three (rootN three p k + 2 ^ i) p then rootN three p k + 2 ^ i else rootN three p k := by
  obtain ⟨q, h1, h2⟩ := rootN_inv three p k (by omega)
  obtain rfl : i = 39 - k := by omega
  have e : 40 - k = 39 - k + 1 := by omega
  rw [e] at h1
  have hb : (q + 1) * 2 ^ (39 - k + 1) ≤ 2 ^ k * 2 ^ (39 - k + 1) := Nat.mul_le_mul (by omega) (Nat.le_refl _)
  rw [← Nat.pow_add, show k + (39 - k + 1) = 40 from by omega, Nat.add_mul, Nat.one_mul] at hb
  have hp : 2 ^ (39 - k + 1) = 2 * 2 ^ (39 - k) := by rw [Nat.pow_succ, Nat.mul_comm]
  have h40 : (2 : Nat) ^ 40 = 1099511627776 := by decide
  have hpos := Nat.two_pow_pos (39 - k)
  refine ⟨by omega, ?_, rfl⟩
  rw [h1]
  exact or_bit q (39 - k) (by omega) (by omega)

set_option maxRecDepth 10000 in
set_option maxHeartbeats 2000000 in
theorem r2_rootC (p : Nat) (hp : p < 512) (w : World) :
    Calls Tryz.prog 155 #[.int .u64 p, .bool true] w fun e w' => e = .returned (.int .u32 ((rootN true p 40 % 4294967296 : Nat) : Int)) ∧ w = w' := by
  go_enter Tryz.func155, Tryz.ntmps155
  go_wp2
  go_loop [5, 6] (fun s5 s6 => ∃ k : Nat, k ≤ 40 ∧ s6 = .int .i64 (39 - k) ∧ s5 = .int .u64 (rootN true p k)) (fun _ s6 => ((intOf s6) + 1).toNat)
  case atStart => exact ⟨0, by omega, rfl, rfl⟩
  case round =>
    obtain ⟨k, hk, rfl, rfl⟩ := hrel
    by_cases hlt : k < 40
    · obtain ⟨i, hi⟩ : ∃ i : Nat, (39 : Int) - k = i := ⟨39 - k, by omega⟩
      obtain ⟨hst, hor, hnx⟩ := root_step true p k i hlt hi
      rw [hi]
      have HI := Lib.hid hi
      have hi39 : (i : Int) ≤ 39 := by omega
      obtain ⟨t, ht⟩ : ∃ t, t = rootN true p k + 2 ^ i := ⟨_, rfl⟩
      rw [← ht] at hst hor hnx
      obtain ⟨s, hs⟩ : ∃ s, s = rootN true p k := ⟨_, rfl⟩
      rw [← hs] at hor hnx ⊢
      have HNX := Lib.hid hnx
      clear hi ht hs hnx
      by_cases h36 : t < 68719476736
      · have h36' : (t : Int) < 68719476736 := by omega
        cases hc : cubeB t p with
        | true =>
          have HCB := Lib.hid hc
          have HOK : Hid (okB true t p = true) := by unfold Hid okB; rw [hc]; simp [h36]
          clear hc
          go_wp2_with (first | (go_at_call 168; (with_reducible refine (r2_cube t p h36 hp _).mono ?_); rintro e w' ⟨rfl, rfl⟩; rw [HCB.out]))
          go_round
          case rel => exact ⟨k + 1, by omega, by have := HI.out; first | (simp; done) | (simp; omega), by rw [HNX.out, HOK.out]; rfl⟩
          case measure => have := HI.out; first | (simp [intOf]; done) | (simp [intOf]; omega)
        | false =>
          have HCB := Lib.hid hc
          have HOK : Hid (okB true t p = false) := by unfold Hid okB; rw [hc]; simp
          clear hc
          go_wp2_with (first | (go_at_call 168; (with_reducible refine (r2_cube t p h36 hp _).mono ?_); rintro e w' ⟨rfl, rfl⟩; rw [HCB.out]))
          go_round
          case rel => exact ⟨k + 1, by omega, by have := HI.out; first | (simp; done) | (simp; omega), by rw [HNX.out, HOK.out]; rfl⟩
          case measure => have := HI.out; first | (simp [intOf]; done) | (simp [intOf]; omega)
      · have h36' : decide ((t : Int) < 68719476736) = false := decide_eq_false (by omega)
        have HOK : Hid (okB true t p = false) := by unfold Hid okB; simp [h36]
        clear h36
        go_wp2
        go_round
        case rel => exact ⟨k + 1, by omega, by have := HI.out; first | (simp; done) | (simp; omega), by rw [HNX.out, HOK.out]; rfl⟩
        case measure => have := HI.out; first | (simp [intOf]; done) | (simp [intOf]; omega)
    · obtain rfl : k = 40 := by omega
      obtain ⟨s, hs⟩ : ∃ s, s = rootN true p 40 := ⟨_, rfl⟩
      rw [← hs]
      have HS := Lib.hid hs
      clear hs
      go_wp2
      go_ret
      refine ⟨ret_int ?_, rfl⟩
      rw [← HS.out]
set_option maxRecDepth 10000 in
set_option maxHeartbeats 2000000 in
theorem r2_rootS (p : Nat) (hp : p < 512) (w : World) :
    Calls Tryz.prog 155 #[.int .u64 p, .bool false] w fun e w' => e = .returned (.int .u32 ((rootN false p 40 % 4294967296 : Nat) : Int)) ∧ w = w' := by
  go_enter Tryz.func155, Tryz.ntmps155
  go_wp2
  go_loop [5, 6] (fun s5 s6 => ∃ k : Nat, k ≤ 40 ∧ s6 = .int .i64 (39 - k) ∧ s5 = .int .u64 (rootN false p k)) (fun _ s6 => ((intOf s6) + 1).toNat)
  case atStart => exact ⟨0, by omega, rfl, rfl⟩
  case round =>
    obtain ⟨k, hk, rfl, rfl⟩ := hrel
    by_cases hlt : k < 40
    · obtain ⟨i, hi⟩ : ∃ i : Nat, (39 : Int) - k = i := ⟨39 - k, by omega⟩
      obtain ⟨hst, hor, hnx⟩ := root_step false p k i hlt hi
      rw [hi]
      have HI := Lib.hid hi
      have hi39 : (i : Int) ≤ 39 := by omega
      obtain ⟨t, ht⟩ : ∃ t, t = rootN false p k + 2 ^ i := ⟨_, rfl⟩
      rw [← ht] at hst hor hnx
      obtain ⟨s, hs⟩ : ∃ s, s = rootN false p k := ⟨_, rfl⟩
      rw [← hs] at hor hnx ⊢
      have HNX := Lib.hid hnx
      clear hi ht hs hnx
      cases hc : squareB t p with
      | true =>
        have HCB := Lib.hid hc
        have HOK : Hid (okB false t p = true) := by unfold Hid okB; rw [hc]; simp
        clear hc
        go_wp2_with (first | (go_at_call 169; (with_reducible refine (r2_square t p hst hp _).mono ?_); rintro e w' ⟨rfl, rfl⟩; rw [HCB.out]))
        go_round
        case rel => exact ⟨k + 1, by omega, by have := HI.out; first | (simp; done) | (simp; omega), by rw [HNX.out, HOK.out]; rfl⟩
        case measure => have := HI.out; first | (simp [intOf]; done) | (simp [intOf]; omega)
      | false =>
        have HCB := Lib.hid hc
        have HOK : Hid (okB false t p = false) := by unfold Hid okB; rw [hc]; simp
        clear hc
        go_wp2_with (first | (go_at_call 169; (with_reducible refine (r2_square t p hst hp _).mono ?_); rintro e w' ⟨rfl, rfl⟩; rw [HCB.out]))
        go_round
        case rel => exact ⟨k + 1, by omega, by have := HI.out; first | (simp; done) | (simp; omega), by rw [HNX.out, HOK.out]; rfl⟩
        case measure => have := HI.out; first | (simp [intOf]; done) | (simp [intOf]; omega)
    · obtain rfl : k = 40 := by omega
      obtain ⟨s, hs⟩ : ∃ s, s = rootN false p 40 := ⟨_, rfl⟩
      rw [← hs]
      have HS := Lib.hid hs
      clear hs
      go_wp2
      go_ret
      refine ⟨ret_int ?_, rfl⟩
      rw [← HS.out]
end Go.Proofs.YtfdhgakalojahaaGreatDoor

namespace Go.Proofs.YtfdhgakalojahaaGreatDoor
open Go Go.RowKit

def PL : List Nat := [2, 3, 5, 7, 11, 13, 17, 19, 23, 29, 31, 37, 41, 43, 47, 53, 59, 61, 67, 71, 73, 79, 83, 89, 97, 101, 103, 107, 109, 113, 127, 131, 137, 139, 149, 151, 157, 163, 167, 173, 179, 181, 191, 193, 197, 199, 211, 223, 227, 229, 233, 239, 241, 251, 257, 263, 269, 271, 277, 281, 283, 293, 307, 311]

def KL : List Nat := [1116352408, 1899447441, 3049323471, 3921009573, 961987163, 1508970993, 2453635748, 2870763221, 3624381080, 310598401, 607225278, 1426881987, 1925078388, 2162078206, 2614888103, 3248222580, 3835390401, 4022224774, 264347078, 604807628, 770255983, 1249150122, 1555081692, 1996064986, 2554220882, 2821834349, 2952996808, 3210313671, 3336571891, 3584528711, 113926993, 338241895, 666307205, 773529912, 1294757372, 1396182291, 1695183700, 1986661051, 2177026350, 2456956037, 2730485921, 2820302411, 3259730800, 3345764771, 3516065817, 3600352804, 4094571909, 275423344, 430227734, 506948616, 659060556, 883997877, 958139571, 1322822218, 1537002063, 1747873779, 1955562222, 2024104815, 2227730452, 2361852424, 2428436474, 2756734187, 3204031479, 3329325298]

def FL : List Nat := [1779033703, 3144134277, 1013904242, 2773480762, 1359893119, 2600822924, 528734635, 1541459225]

theorem eval_one : rootN true 2 40 % 4294967296 = 1116352408 := by kernel_rfl

theorem eval_K : PL.map (fun p => rootN true p 40 % 4294967296) = KL := by kernel_rfl

theorem eval_F : (PL.take 8).map (fun p => rootN false p 40 % 4294967296) = FL := by kernel_rfl

/-- is it a prime? by trial: fuel, divisor, what was found so far -/
def loopP (p : Nat) : Nat → Nat → Bool → Bool
  | 0, _, is => is
  | f + 1, d, is => if decide (d * d ≤ p) && is then loopP p f (d + 1) (decide (p % d ≠ 0)) else is

def prB (p : Nat) : Bool := loopP p 512 2 true

def chkP : Bool := (List.range 312).all fun p => prB p == (decide (p < 2) || PL.contains p)
theorem eval_P : chkP = true := by kernel_rfl

theorem prB_eq {p : Nat} (h : p < 312) : prB p = (decide (p < 2) || PL.contains p) := by
  have := List.all_eq_true.1 (show (List.range 312).all (fun p => prB p == (decide (p < 2) || PL.contains p)) = true from eval_P) p (List.mem_range.2 h)
  simpa using this

/-- the primes below a number -/
def lp (p : Nat) : List Nat := PL.filter fun q => decide (q < p)

def chkL : Bool := (List.range 312).all fun p => lp (p + 1) == if PL.contains p then lp p ++ [p] else lp p
theorem eval_L : chkL = true := by kernel_rfl

theorem lp_succ {p : Nat} (h : p < 312) : lp (p + 1) = if PL.contains p then lp p ++ [p] else lp p := by
  have := List.all_eq_true.1 (show (List.range 312).all (fun p => lp (p + 1) == if PL.contains p then lp p ++ [p] else lp p) = true from eval_L) p (List.mem_range.2 h)
  simpa using this

def chkN : Bool := (List.range 312).all fun p => decide ((lp p).length < 64)
theorem eval_N : chkN = true := by kernel_rfl
theorem lp_lt {p : Nat} (h : p < 312) : (lp p).length < 64 := by
  have := List.all_eq_true.1 (show (List.range 312).all (fun p => decide ((lp p).length < 64)) = true from eval_N) p (List.mem_range.2 h)
  simpa using this
theorem lp_last : lp 312 = PL := by kernel_rfl
theorem lp_first : lp 2 = [] := by kernel_rfl
theorem PL_length : PL.length = 64 := by rfl
end Go.Proofs.YtfdhgakalojahaaGreatDoor

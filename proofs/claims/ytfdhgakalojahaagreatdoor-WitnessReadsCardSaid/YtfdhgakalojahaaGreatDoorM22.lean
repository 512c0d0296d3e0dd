/- WALKS: the program's layer 3: two right texts held against each other. WALKS: may a text be an origin? The program's answer and the reference's. WALKS: may a head be? WALKS: may a head be? By the reference. -/
import Derived.Test.YtfdhgakalojahaaGreatDoorM21
import Derived.Test.YtfdhgakalojahaaGreatDoorM01
import Derived.Test.YtfdhgakalojahaaGreatDoorM06
import Derived.BigQuiet
import Derived.Deep.QuietTactic
import Derived.Deep.RegionWith
import Derived.Deep.RegionHeld3
import Derived.Test.YtfdhgakalojahaaGreatDoorM07
set_option linter.unusedSimpArgs false
set_option linter.unusedVariables false
set_option linter.unnecessarySimpa false
set_option linter.unusedSectionVars false
namespace Go.Proofs.YtfdhgakalojahaaGreatDoor
open Go Go.RowKit

def cmpI (x y : Int) : Int := if x < y then -1 else if y < x then 1 else 0

theorem cmp_i64 (x y : Int) (w : World) : Calls Tryz.prog 91 #[.int .i64 x, .int .i64 y] w fun e w' => e = .returned (.int .i64 (cmpI x y)) ∧ w = w' := by
  unfold cmpI
  by_cases h1 : x < y
  · rw [if_pos h1]
    go_enter Tryz.func91, Tryz.ntmps91
    go_wp2
    go_ret
    exact ⟨rfl, rfl⟩
  · rw [if_neg h1]
    by_cases h2 : y < x
    · rw [if_pos h2]
      go_enter Tryz.func91, Tryz.ntmps91
      go_wp2
      go_ret
      exact ⟨rfl, rfl⟩
    · rw [if_neg h2]
      go_enter Tryz.func91, Tryz.ntmps91
      go_wp2
      go_ret
      exact ⟨rfl, rfl⟩
theorem cmp_u8 (x y : Int) (w : World) : Calls Tryz.prog 93 #[.int .u8 x, .int .u8 y] w fun e w' => e = .returned (.int .i64 (cmpI x y)) ∧ w = w' := by
  unfold cmpI
  by_cases h1 : x < y
  · rw [if_pos h1]
    go_enter Tryz.func93, Tryz.ntmps93
    go_wp2
    go_ret
    exact ⟨rfl, rfl⟩
  · rw [if_neg h1]
    by_cases h2 : y < x
    · rw [if_pos h2]
      go_enter Tryz.func93, Tryz.ntmps93
      go_wp2
      go_ret
      exact ⟨rfl, rfl⟩
    · rw [if_neg h2]
      go_enter Tryz.func93, Tryz.ntmps93
      go_wp2
      go_ret
      exact ⟨rfl, rfl⟩

theorem utf_high (c : Nat) (w : World) : Calls Tryz.prog 92 #[.int .u8 c] w fun e w' => e = .returned (.bool (decide (240 ≤ (c : Int)))) ∧ w = w' := by
  go_enter Tryz.func92, Tryz.ntmps92
  go_wp2
  go_ret
  exact ⟨rfl, rfl⟩

set_option maxRecDepth 100000 in
set_option maxHeartbeats 3000000 in
theorem utf_Compare (a b : ByteArray) (w : World) (ha : a.size ≤ 2147483648) (hb : b.size ≤ 2147483648) (ra : Utf.rightB a = true) (rb : Utf.rightB b = true) :
    Calls Tryz.prog 51 #[.string a, .string b] w fun e w' => e = .returned (.int .i64 (Utf.cmpR a b)) ∧ Chg w w' [] := by
  have RA := Lib.hid ra
  have RB := Lib.hid rb
  clear ra rb
  go_enter Tryz.func51, Tryz.ntmps51
  go_wp2_with (first
    | (go_at_call_of 54 (Value.string a); refine (utf_Right a _ ha).mono ?_; rintro e w1 ⟨rfl, hg1⟩; rw [RA.out])
    | (go_at_call 54; refine (utf_Right b _ hb).mono ?_; rintro e w2 ⟨rfl, hg2⟩; rw [RB.out]))
  go_loopw [7] (fun v wr => ∃ i : Nat, v = .int .i64 i ∧ i ≤ a.size ∧ i ≤ b.size ∧ Chg w wr [] ∧ Utf.cmpL ((Utf.bytesL a).drop i) ((Utf.bytesL b).drop i) = Utf.cmpR a b) (fun v _ => a.size - (intOf v).toNat)
  case atStart => exact ⟨0, rfl, by omega, by omega, hg1.trans hg2, rfl⟩
  case round =>
    obtain ⟨i, rfl, hi1, hi2, hg, he⟩ := hrel
    have HG := Lib.hid hg
    have HE := Lib.hid he
    clear hg he
    by_cases h1 : i < a.size
    · by_cases h2 : i < b.size
      · have HX := Lib.hid (Utf.byteAt_eq h1)
        have HY := Lib.hid (Utf.byteAt_eq h2)
        by_cases hxy : a[i].toNat = b[i].toNat
        · have t1 : ((a[i].toNat : Int) == (b[i].toNat : Int)) = true := by simp [hxy]
          have hn : Utf.cmpL ((Utf.bytesL a).drop (i + 1)) ((Utf.bytesL b).drop (i + 1)) = Utf.cmpR a b := by
            rw [← HE.out, Utf.bytesL_drop h1, Utf.bytesL_drop h2]
            simp only [Utf.cmpL]
            rw [if_pos (by rw [HX.out, HY.out]; exact hxy)]
          have HN := Lib.hid hn
          clear hn hxy
          go_wp2
          go_quiet (fail)
          go_wp2
          go_roundw
          case rel => exact ⟨i + 1, by go_num, by omega, by omega, by (repeat (first | exact HG.out | with_reducible refine Chg.drewN ?_ _ | with_reducible refine Chg.drew ?_ | with_reducible refine Chg.alloc ?_ _ | with_reducible refine Chg.setCell ?_ _ _ (by simp) | with_reducible refine Chg.setCell ?_ _ _ (by simp; omega))), HN.out⟩
          case measure => simp [intOf]; omega
        · have t1 : ((a[i].toNat : Int) == (b[i].toNat : Int)) = false := by rw [beq_eq_false_iff_ne]; omega
          have t2 : ((i : Int) == (a.size : Int)) = false := by rw [beq_eq_false_iff_ne]; omega
          have t3 : ((i : Int) == (b.size : Int)) = false := by rw [beq_eq_false_iff_ne]; omega
          have hn : Utf.cmpR a b = Utf.cmpByte a[i].toNat b[i].toNat := by
            rw [← HE.out, Utf.bytesL_drop h1, Utf.bytesL_drop h2]
            simp only [Utf.cmpL]
            rw [if_neg (by rw [HX.out, HY.out]; exact hxy), HX.out, HY.out]
          have HN := Lib.hid hn
          have HNE := Lib.hid hxy
          clear hn hxy
          go_wp2
          go_quiet (fail)
          go_wp2
          go_quiet (fail)
          go_wp2_with (first
            | (go_at_call 92; refine (utf_high _ _).mono ?_; rintro e w' ⟨rfl, rfl⟩)
            | (go_at_call 93; refine (cmp_u8 _ _ _).mono ?_; rintro e w' ⟨rfl, rfl⟩))
          all_goals go_ret
          all_goals refine ⟨ret_int ?_, by (repeat (first | exact HG.out | with_reducible refine Chg.drewN ?_ _ | with_reducible refine Chg.drew ?_ | with_reducible refine Chg.alloc ?_ _ | with_reducible refine Chg.setCell ?_ _ _ (by simp) | with_reducible refine Chg.setCell ?_ _ _ (by simp; omega)))⟩
          all_goals go_light
          all_goals rw [HN.out]
          all_goals have hne := HNE.out
          all_goals unfold Utf.cmpByte
          all_goals (try unfold cmpI)
          all_goals repeat' split
          all_goals first | rfl | omega | (simp at *; omega)
      · have t2 : ((i : Int) == (a.size : Int)) = false := by rw [beq_eq_false_iff_ne]; omega
        have t3 : ((i : Int) == (b.size : Int)) = true := by rw [beq_iff_eq]; omega
        have hn : Utf.cmpR a b = cmpI a.size b.size := by
          rw [← HE.out, Utf.bytesL_drop h1, Utf.bytesL_end (s := b) (by omega)]
          simp only [Utf.cmpL, cmpI]
          rw [if_neg (by omega), if_pos (by omega)]
        have HN := Lib.hid hn
        clear hn
        go_wp2
        go_quiet (fail)
        go_wp2_with (first | (go_at_call 91; refine (cmp_i64 _ _ _).mono ?_; rintro e w' ⟨rfl, rfl⟩))
        go_ret
        exact ⟨ret_int HN.out.symm, by (repeat (first | exact HG.out | with_reducible refine Chg.drewN ?_ _ | with_reducible refine Chg.drew ?_ | with_reducible refine Chg.alloc ?_ _ | with_reducible refine Chg.setCell ?_ _ _ (by simp) | with_reducible refine Chg.setCell ?_ _ _ (by simp; omega)))⟩
    · have t2 : ((i : Int) == (a.size : Int)) = true := by rw [beq_iff_eq]; omega
      have hn : Utf.cmpR a b = cmpI a.size b.size := by
        rw [← HE.out, Utf.bytesL_end (s := a) (by omega)]
        by_cases h2 : i < b.size
        · rw [Utf.bytesL_drop h2]
          simp only [Utf.cmpL, cmpI]
          rw [if_pos (by omega)]
        · rw [Utf.bytesL_end (s := b) (by omega)]
          simp only [Utf.cmpL, cmpI]
          rw [if_neg (by omega), if_neg (by omega)]
      have HN := Lib.hid hn
      clear hn
      go_wp2
      go_quiet (fail)
      go_wp2_with (first | (go_at_call 91; refine (cmp_i64 _ _ _).mono ?_; rintro e w' ⟨rfl, rfl⟩))
      go_ret
      exact ⟨ret_int HN.out.symm, by (repeat (first | exact HG.out | with_reducible refine Chg.drewN ?_ _ | with_reducible refine Chg.drew ?_ | with_reducible refine Chg.alloc ?_ _ | with_reducible refine Chg.setCell ?_ _ _ (by simp) | with_reducible refine Chg.setCell ?_ _ _ (by simp; omega)))⟩
end Go.Proofs.YtfdhgakalojahaaGreatDoor

namespace Go.Proofs.YtfdhgakalojahaaGreatDoor
open Go Go.RowKit

def originB (s : ByteArray) : Bool := decide (1 ≤ s.size) && decide (s.size ≤ 256) && Utf.rightB s

theorem originB_low {s : ByteArray} (h : ¬ 1 ≤ s.size) : originB s = false := by unfold originB; rw [decide_eq_false h]; rfl
theorem originB_high {s : ByteArray} (h : ¬ s.size ≤ 256) : originB s = false := by unfold originB; rw [decide_eq_false h]; simp
theorem originB_mid {s : ByteArray} (h1 : 1 ≤ s.size) (h2 : s.size ≤ 256) : originB s = Utf.rightB s := by unfold originB; rw [decide_eq_true h1, decide_eq_true h2]; rfl

theorem wit_origin (s : ByteArray) (w : World) (hs : s.size ≤ 2147483648) :
    Calls Tryz.prog 30 #[.string s] w fun e w' => e = .returned (.bool (originB s)) ∧ Chg w w' [] := by
  by_cases h1 : 1 ≤ s.size
  · by_cases h2 : s.size ≤ 256
    · rw [originB_mid h1 h2]
      have HR : Hid (∀ w, Calls Tryz.prog 54 #[.string s] w fun e w' => e = .returned (.bool (Utf.rightB s)) ∧ Chg w w' []) := fun w => utf_Right s w hs
      obtain ⟨r, hr⟩ : ∃ r, r = Utf.rightB s := ⟨_, rfl⟩
      rw [← hr] at HR ⊢
      clear hr
      have d1 : decide (1 ≤ (s.size : Int)) = true := by simp; omega
      have d2 : decide ((s.size : Int) ≤ 256) = true := by simp; omega
      go_enter Tryz.func30, Tryz.ntmps30
      go_wp2_with (first | (go_at_call 54; (with_reducible refine (HR.out _).mono ?_); rintro e w1 ⟨rfl, hg1⟩))
      go_ret
      exact ⟨rfl, hg1⟩
    · rw [originB_high h2]
      go_enter Tryz.func30, Tryz.ntmps30
      go_wp2_with fail
      all_goals go_ret
      exact ⟨rfl, Chg.refl _ _⟩
  · rw [originB_low h1]
    go_enter Tryz.func30, Tryz.ntmps30
    go_wp2_with fail
    all_goals go_ret
    exact ⟨rfl, Chg.refl _ _⟩

theorem r30_origin (s : ByteArray) (w : World) (hs : s.size ≤ 2147483648) :
    Calls Tryz.prog 23 #[.string s] w fun e w' => e = .returned (.bool (originB s)) ∧ w = w' := by
  by_cases h1 : 1 ≤ s.size
  · by_cases h2 : s.size ≤ 256
    · rw [originB_mid h1 h2]
      have HR : Hid (∀ w, Calls Tryz.prog 47 #[.string s] w fun e w' => e = .returned (.bool (Utf.rightB s)) ∧ w = w') := fun w => r3_Right s w hs
      obtain ⟨r, hr⟩ : ∃ r, r = Utf.rightB s := ⟨_, rfl⟩
      rw [← hr] at HR ⊢
      clear hr
      have d1 : decide (1 ≤ (s.size : Int)) = true := by simp; omega
      have d2 : decide ((s.size : Int) ≤ 256) = true := by simp; omega
      go_enter Tryz.func23, Tryz.ntmps23
      go_wp2_with (first | (go_at_call 47; (with_reducible refine (HR.out _).mono ?_); rintro e w1 ⟨rfl, rfl⟩))
      go_ret
      exact ⟨rfl, rfl⟩
    · rw [originB_high h2]
      go_enter Tryz.func23, Tryz.ntmps23
      go_wp2_with fail
      all_goals go_ret
      exact ⟨rfl, rfl⟩
  · rw [originB_low h1]
    go_enter Tryz.func23, Tryz.ntmps23
    go_wp2_with fail
    all_goals go_ret
    exact ⟨rfl, rfl⟩
end Go.Proofs.YtfdhgakalojahaaGreatDoor

namespace Go.Proofs.YtfdhgakalojahaaGreatDoor
open Go Go.RowKit

theorem info_hd : (Tryz.prog.info? 25).map (·.size) = some 35 := by kernel_rfl
theorem info_dg : (Tryz.prog.info? 23).map (·.size) = some 32 := by kernel_rfl
theorem size_u8 (w : World) : (sizeOf 5).run Tryz.prog w = .ok 1 w := by kernel_rfl

set_option maxRecDepth 100000 in
set_option maxHeartbeats 4000000 in
theorem wit_may (ed : List UInt8) (L : World → Prop) (hL : ∀ w w', L w → Chg w w' [] → L w') (HE : ∀ w, L w → Calls Tryz.prog 33 #[] w fun e w' => e = .returned (.agg (ed.map byV).toArray) ∧ Chg w w' []) (hed : ed.length = 32)
    (o : ByteArray) (n t : Int) (rb : List UInt8) (hr : rb.length = 32) (w : World) (hs : o.size ≤ 2147483648) (hl : L w) :
    Calls Tryz.prog 16 #[.agg (hdL o n rb t).toArray] w fun e w' => e = .returned (.bool (mayB (originB o) n t (rb == ed))) ∧ Chg w w' [] := by
  have HLL := Lib.hid hL
  have HEE := Lib.hid HE
  have HL0 := Lib.hid hl
  have hcb := hdL_cells o n rb t
  have HB0 := Lib.hid (Blk.new w (hdL o n rb t) 25)
  have HO : Hid (∀ w, Calls Tryz.prog 30 #[.string o] w fun e w' => e = .returned (.bool (originB o)) ∧ Chg w w' []) := fun w => wit_origin o w hs
  have q0 : (w.alloc (.cells (hdL o n rb t).toArray 25)).cell? ⟨w.heap.size, 0, none⟩ = some (.string o) := HB0.out.cell 0
  obtain ⟨r, hrr⟩ : ∃ r, r = originB o := ⟨_, rfl⟩
  rw [← hrr] at HO ⊢
  obtain ⟨m, hm⟩ : ∃ m, m = mayB r n t (rb == ed) := ⟨_, rfl⟩
  rw [← hm]
  have HM := Lib.hid hm
  clear hrr hL HE hl hm
  have hz : w.heap.size < (w.alloc (.cells (hdL o n rb t).toArray 25)).heap.size := by simp
  go_enter Tryz.func16, Tryz.ntmps16
  go_wp2_with fail
  refine (HO.out _).mono ?_
  rintro e w1 ⟨rfl, hg1⟩
  have HB1 := Lib.hid (HB0.out.kept hg1 (by simp))
  have HG1 := Lib.hid (((Chg.refl w []).alloc _).trans hg1)
  have HL1 := Lib.hid (HLL.out _ _ HL0.out HG1.out)
  clear hg1 q0 hz
  obtain ⟨c0, c1, c34, hrg⟩ := HB1.out.head hr
  have HRG := Lib.hid hrg
  clear hrg c0
  have hb1 := HB1.out.lt
  cases r with
  | false =>
    go_wp2_with fail
    go_quiet (fail)
    go_wp2
    go_ret
    exact ⟨ret_bool (by rw [HM.out]; rfl), by (repeat (first | exact HG1.out | with_reducible refine Chg.drewN ?_ _ | with_reducible refine Chg.drew ?_ | with_reducible refine Chg.alloc ?_ _ | with_reducible refine Chg.setCell ?_ _ _ (by simp) | with_reducible refine Chg.setCell ?_ _ _ (by simp; omega)))⟩
  | true =>
    by_cases h1 : 0 ≤ n ∧ n ≤ 9007199254740991 ∧ 0 ≤ t ∧ t ≤ 9007199254740991
    · obtain ⟨h1, h2, h3, h4⟩ := h1
      by_cases h5 : 0 < n
      · have d5 : decide (0 < n) = true := decide_eq_true h5
        go_wp2_with fail
        go_quiet (fail)
        go_wp2
        go_ret
        exact ⟨ret_bool (by rw [HM.out]; unfold mayB; simp [h1, h2, h3, h4, h5]), by (repeat (first | exact HG1.out | with_reducible refine Chg.drewN ?_ _ | with_reducible refine Chg.drew ?_ | with_reducible refine Chg.alloc ?_ _ | with_reducible refine Chg.setCell ?_ _ _ (by simp) | with_reducible refine Chg.setCell ?_ _ _ (by simp; omega)))⟩
      · obtain rfl : n = 0 := by omega
        go_wp2_with fail
        have hE : ∀ w', (binOp .eql 23 (.agg (rb.map byV).toArray) (.agg (ed.map byV).toArray)).run Tryz.prog w' = .ok (.bool (rb == ed)) w' :=
          fun w' => run_eql_bytes w' _ 5 32 Tryz.underlying23 Tryz.underlying5 size_u8 rb ed hr hed
        have hu := Tryz.underlying23
        have hi : (Tryz.prog.info? 23).map (·.size) = some (rb.map byV).length := by rw [List.length_map, hr]; exact info_dg
        have hRG := HRG.out
        go_region_held3 (fun w' => w'.rangeAt w.heap.size 2 (rb.map byV) ∧ w'.cell? ⟨w.heap.size, 1, none⟩ = some (.int .i64 0)) (first | exact ⟨hRG, c1⟩ | exact ⟨fun j v hv => HG2.out.keeps (hRG j v hv), HG2.out.keeps c1⟩)
          ((go_at_call 33; refine (HEE.out _ (by exact HLL.out _ _ HL1.out (by (repeat (first | exact Chg.refl _ _ | with_reducible refine Chg.drewN ?_ _ | with_reducible refine Chg.drew ?_ | with_reducible refine Chg.alloc ?_ _ | with_reducible refine Chg.setCell ?_ _ _ (by simp) | with_reducible refine Chg.setCell ?_ _ _ (by simp; omega)))))).mono ?_; rintro e w2 ⟨rfl, hg2⟩; have HG2 := Lib.hid hg2; clear hg2))
        all_goals go_wp2
        go_ret
        exact ⟨ret_bool (by rw [HM.out]; unfold mayB; simp [h3, h4]), HG1.out.trans ((Chg.refl w1 []).drew.trans HG2.out)⟩
    · have HM2 : Hid (m = false) := by unfold Hid; rw [HM.out]; unfold mayB; simp only [Bool.true_and, Bool.and_eq_false_iff, decide_eq_false_iff_not]; omega
      have : n < 0 ∨ (0 ≤ n ∧ 9007199254740991 < n) ∨ (0 ≤ n ∧ n ≤ 9007199254740991 ∧ t < 0) ∨ (0 ≤ n ∧ n ≤ 9007199254740991 ∧ 0 ≤ t ∧ 9007199254740991 < t) := by omega
      clear h1
      rcases this with h1 | ⟨h1, h2⟩ | ⟨h1, h2, h3⟩ | ⟨h1, h2, h3, h4⟩
      · go_wp2_with fail
        go_quiet (fail)
        go_wp2
        go_ret
        exact ⟨ret_bool HM2.out.symm, by (repeat (first | exact HG1.out | with_reducible refine Chg.drewN ?_ _ | with_reducible refine Chg.drew ?_ | with_reducible refine Chg.alloc ?_ _ | with_reducible refine Chg.setCell ?_ _ _ (by simp) | with_reducible refine Chg.setCell ?_ _ _ (by simp; omega)))⟩
      · go_wp2_with fail
        go_quiet (fail)
        go_wp2
        go_ret
        exact ⟨ret_bool HM2.out.symm, by (repeat (first | exact HG1.out | with_reducible refine Chg.drewN ?_ _ | with_reducible refine Chg.drew ?_ | with_reducible refine Chg.alloc ?_ _ | with_reducible refine Chg.setCell ?_ _ _ (by simp) | with_reducible refine Chg.setCell ?_ _ _ (by simp; omega)))⟩
      · go_wp2_with fail
        go_quiet (fail)
        go_wp2
        go_ret
        exact ⟨ret_bool HM2.out.symm, by (repeat (first | exact HG1.out | with_reducible refine Chg.drewN ?_ _ | with_reducible refine Chg.drew ?_ | with_reducible refine Chg.alloc ?_ _ | with_reducible refine Chg.setCell ?_ _ _ (by simp) | with_reducible refine Chg.setCell ?_ _ _ (by simp; omega)))⟩
      · have d4 : decide (t ≤ 9007199254740991) = false := decide_eq_false (by omega)
        go_wp2_with fail
        go_quiet (fail)
        go_wp2
        go_ret
        exact ⟨ret_bool HM2.out.symm, by (repeat (first | exact HG1.out | with_reducible refine Chg.drewN ?_ _ | with_reducible refine Chg.drew ?_ | with_reducible refine Chg.alloc ?_ _ | with_reducible refine Chg.setCell ?_ _ _ (by simp) | with_reducible refine Chg.setCell ?_ _ _ (by simp; omega)))⟩
end Go.Proofs.YtfdhgakalojahaaGreatDoor

namespace Go.Proofs.YtfdhgakalojahaaGreatDoor
open Go Go.RowKit

set_option maxRecDepth 100000 in
set_option maxHeartbeats 4000000 in
theorem r30_empty (ed : List UInt8) (HE : ∀ w, Calls Tryz.prog 48 #[] w fun e w' => e = .returned (.agg (ed.map byV).toArray) ∧ Chg w w' []) (hed : ed.length = 32)
    (rb : List UInt8) (hr : rb.length = 32) (w : World) :
    Calls Tryz.prog 24 #[.agg (rb.map byV).toArray] w fun e w' => e = .returned (.bool (rb == ed)) ∧ Chg w w' [] := by
  have HEE := Lib.hid HE
  have hcb : (Value.agg (rb.map byV).toArray).cells = (rb.map byV).toArray := rfl
  have hRG : (w.alloc (.cells (rb.map byV).toArray 23)).rangeAt w.heap.size 0 (rb.map byV) := fun j v hv => by
    rw [Nat.zero_add, (Blk.new w (rb.map byV) 23).cell, hv]
  have hE : ∀ w', (binOp .eql 22 (.agg (rb.map byV).toArray) (.agg (ed.map byV).toArray)).run Tryz.prog w' = .ok (.bool (rb == ed)) w' :=
    fun w' => run_eql_bytes w' _ 5 32 Tryz.underlying22 Tryz.underlying5 size_u8 rb ed hr hed
  have hu := Tryz.underlying23
  have hi : (Tryz.prog.info? 23).map (·.size) = some (rb.map byV).length := by rw [List.length_map, hr]; exact info_dg
  obtain ⟨w1, hw1⟩ : ∃ x, x = w.alloc (.cells (rb.map byV).toArray 23) := ⟨_, rfl⟩
  have HG1 : Hid (Chg w w1 []) := by rw [hw1]; exact Lib.hid ((Chg.refl w []).alloc _)
  rw [← hw1] at hRG
  have HW := Lib.hid hw1
  clear hw1 HE
  obtain ⟨m, hm⟩ : ∃ m, m = (rb == ed) := ⟨_, rfl⟩
  rw [← hm] at hE ⊢
  clear hm
  go_enter Tryz.func24, Tryz.ntmps24
  go_wp2_with fail
  rw [← HW.out]
  go_region_held3 (fun w' => w'.rangeAt w.heap.size 0 (rb.map byV)) (first | exact hRG | exact (fun j v hv => HG2.out.keeps (hRG j v hv)))
    ((go_at_call 48; refine (HEE.out _).mono ?_; rintro e w2 ⟨rfl, hg2⟩; have HG2 := Lib.hid hg2; clear hg2))
  all_goals go_wp2
  go_ret
  exact ⟨rfl, HG1.out.trans ((Chg.refl w1 []).drew.trans HG2.out)⟩

set_option maxRecDepth 100000 in
set_option maxHeartbeats 4000000 in
theorem r30_HeadMay (ed : List UInt8) (HE : ∀ w, Calls Tryz.prog 48 #[] w fun e w' => e = .returned (.agg (ed.map byV).toArray) ∧ Chg w w' []) (hed : ed.length = 32)
    (o : ByteArray) (n t : Int) (rb : List UInt8) (hr : rb.length = 32) (w : World) (hs : o.size ≤ 2147483648) :
    Calls Tryz.prog 7 #[.agg (hdL o n rb t).toArray] w fun e w' => e = .returned (.bool (mayB (originB o) n t (rb == ed))) ∧ Chg w w' [] := by
  have HEE : Hid (∀ w, Calls Tryz.prog 24 #[.agg (rb.map byV).toArray] w fun e w' => e = .returned (.bool (rb == ed)) ∧ Chg w w' []) := fun w => r30_empty ed HE hed rb hr w
  have hcb := hdL_cells o n rb t
  have HB0 := Lib.hid (Blk.new w (hdL o n rb t) 25)
  have HO : Hid (∀ w, Calls Tryz.prog 23 #[.string o] w fun e w' => e = .returned (.bool (originB o)) ∧ w = w') := fun w => r30_origin o w hs
  obtain ⟨r, hrr⟩ : ∃ r, r = originB o := ⟨_, rfl⟩
  rw [← hrr] at HO ⊢
  obtain ⟨q, hq⟩ : ∃ q, q = (rb == ed) := ⟨_, rfl⟩
  rw [← hq] at HEE ⊢
  obtain ⟨m, hm⟩ : ∃ m, m = mayB r n t q := ⟨_, rfl⟩
  rw [← hm]
  have HM := Lib.hid hm
  clear hrr HE hm hq
  obtain ⟨w1, hw1⟩ : ∃ x, x = w.alloc (.cells (hdL o n rb t).toArray 25) := ⟨_, rfl⟩
  have HG1 : Hid (Chg w w1 []) := by rw [hw1]; exact Lib.hid ((Chg.refl w []).alloc _)
  rw [← hw1] at HB0
  have HW := Lib.hid hw1
  clear hw1
  obtain ⟨c0, c1, c34, hrg⟩ := HB0.out.head hr
  have HRG := Lib.hid hrg
  clear hrg
  have hu := Tryz.underlying23
  have hi : (Tryz.prog.info? 23).map (·.size) = some (rb.map byV).length := by rw [List.length_map, hr]; exact info_dg
  go_enter Tryz.func7, Tryz.ntmps7
  go_upto_region 1 with (fail)
  rw [← HW.out]
  cases r with
  | false =>
    go_wp2_with (first | (go_at_call 23; ((with_reducible refine (HO.out _).mono ?_); rintro e w2 ⟨rfl, rfl⟩)))
    go_ret
    exact ⟨ret_bool (by rw [HM.out]; rfl), HG1.out⟩
  | true =>
    by_cases h1 : 0 ≤ n ∧ n ≤ 9007199254740991 ∧ 0 ≤ t ∧ t ≤ 9007199254740991
    · obtain ⟨h1, h2, h3, h4⟩ := h1
      have d1 : decide (n < 0) = false := decide_eq_false (by omega)
      have d2 : decide (9007199254740991 < n) = false := decide_eq_false (by omega)
      have d3 : decide (t < 0) = false := decide_eq_false (by omega)
      have d4 : decide (9007199254740991 < t) = false := decide_eq_false (by omega)
      by_cases h5 : 0 < n
      · have d5 : decide (0 < n) = true := decide_eq_true h5
        go_wp2_with (first | (go_at_call 23; ((with_reducible refine (HO.out _).mono ?_); rintro e w2 ⟨rfl, rfl⟩)))
        go_ret
        exact ⟨ret_bool (by rw [HM.out]; unfold mayB; simp [h1, h2, h3, h4, h5]), HG1.out⟩
      · obtain rfl : n = 0 := by omega
        go_wp2_with (first
          | (go_at_call 23; ((with_reducible refine (HO.out _).mono ?_); rintro e w2 ⟨rfl, rfl⟩))
          | (go_at_call 24; ((with_reducible refine (HEE.out _).mono ?_); rintro e w2 ⟨rfl, hg2⟩))
          | (refine wpList_load_midG _ _ rfl w.heap.size 2 rfl (rb.map byV) _ HRG.out hu rfl hi (by rfl) ?_))
        go_ret
        exact ⟨ret_bool (by rw [HM.out]; unfold mayB; simp [h3, h4]), HG1.out.trans hg2⟩
    · have HM2 : Hid (m = false) := by unfold Hid; rw [HM.out]; unfold mayB; simp only [Bool.true_and, Bool.and_eq_false_iff, decide_eq_false_iff_not]; omega
      have : n < 0 ∨ (0 ≤ n ∧ 9007199254740991 < n) ∨ (0 ≤ n ∧ n ≤ 9007199254740991 ∧ t < 0) ∨ (0 ≤ n ∧ n ≤ 9007199254740991 ∧ 0 ≤ t ∧ 9007199254740991 < t) := by omega
      clear h1
      rcases this with h1 | ⟨h1, h2⟩ | ⟨h1, h2, h3⟩ | ⟨h1, h2, h3, h4⟩
      all_goals
        go_wp2_with (first | (go_at_call 23; ((with_reducible refine (HO.out _).mono ?_); rintro e w2 ⟨rfl, rfl⟩)))
        go_ret
        exact ⟨ret_bool HM2.out.symm, HG1.out⟩
end Go.Proofs.YtfdhgakalojahaaGreatDoor

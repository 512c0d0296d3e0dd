/- WALKS: the reference's layer 30: a value that is no head. WALKS: the reference's layer 30: an object of four other keys. WORDS for the region of ref30.Read that reads four items and lays two of them: what is known behind each operation. -/
import Derived.Test.YtfdhgakalojahaaGreatDoorM32
import Derived.Test.YtfdhgakalojahaaGreatDoorM38
import Derived.Test.YtfdhgakalojahaaGreatDoorM45
import Derived.Test.YtfdhgakalojahaaGreatDoorM42
import Derived.Test.YtfdhgakalojahaaGreatDoorM03
set_option linter.unusedSimpArgs false
set_option linter.unusedVariables false
set_option linter.unnecessarySimpa false
set_option linter.unusedSectionVars false
namespace Go.Proofs.YtfdhgakalojahaaGreatDoor
open Go Go.RowKit Tree

def R30No (p : ByteArray) (w : World) (e : Ending) (w' : World) : Prop := e = .returned (.tuple #[.agg zer35.toArray, .string p, .bool false]) ∧ Chg w w' []

/-- an operation whose run is known -/
theorem wpList_run {P : Program} {ops : Array Oper} {rest : List Oper} {o : Oper} {a : Act} {Q : Exit → Act → World → Prop} {w : World} (v : Value) (p : Op) (_ : o.op = p) (hgd : o.guard = none) (hr : (execOp a.eval o).run P w = .ok (.value v) w)
    (h : wpList P ops Q rest (a.put o.dst v) w) : wpList P ops Q (o :: rest) a w := by
  refine wpList_plain hgd fun K hK => ?_
  unfold Oper.wp
  rw [hr]
  exact hK _ _ h

set_option maxRecDepth 200000 in
set_option maxHeartbeats 8000000 in
theorem r30_Read_sort (t : Tr) (F : Nat → Prop) (cs : List Value) (w : World) (hv : ValAt w F t cs) (hs : (headStep t).sort ≠ 6 ∨ (headStep t).keys.length ≠ 4) :
    Calls Tryz.prog 14 #[.agg cs.toArray] w (R30No ⟨#[]⟩ w) := by
  obtain ⟨la, lc, ka, kc, xs, rfl, _⟩ := hv.uni
  obtain ⟨so, hso⟩ : ∃ x, x = (headStep t).sort := ⟨_, rfl⟩
  obtain ⟨kn, hkn⟩ : ∃ x, x = (headStep t).keys.length := ⟨_, rfl⟩
  rw [← hso, ← hkn] at hs ⊢
  obtain ⟨w0, hw0⟩ : ∃ x, x = (w.alloc (.cells (vC so (headStep t).flag (headStep t).bits (headStep t).text (.slice la (itemsT t).length lc) (.slice ka kn kc)).toArray 42)).alloc (.cells zer35.toArray 25) := ⟨_, rfl⟩
  have HX : Hid (Blk w0 w.heap.size (vC so (headStep t).flag (headStep t).bits (headStep t).text (.slice la (itemsT t).length lc) (.slice ka kn kc)) 42) := by rw [hw0]; exact Lib.hid ((Blk.new w _ _).alloc _)
  have HH : Hid (Blk w0 (w.heap.size + 1) zer35 25) := by rw [hw0]; exact Lib.hid (Blk.new1 w _ zer35 _)
  have HG0 : Hid (Chg w w0 []) := by rw [hw0]; exact Lib.hid (((Chg.refl w []).alloc _).alloc _)
  obtain ⟨x1, x2, x10, x11, x12, x13, x14, x15⟩ := Blk.cells6 HX.out
  have HW := Lib.hid hw0
  clear hw0 hso hkn hv
  rw [vC_arr]
  by_cases h6 : so = 6
  · have hk : ((kn : Int) != 4) = true := by rw [bne_iff_ne]; rcases hs with h | h <;> omega
    subst h6
    clear hs
    go_enter Tryz.func14, Tryz.ntmps14
    go_upto_region 1 with (fail)
    change Code.wp _ _ _ _ ((w.alloc (.cells (vC (6 : Nat) (headStep t).flag (headStep t).bits (headStep t).text (.slice la (itemsT t).length lc) (.slice ka kn kc)).toArray 42)).alloc (.cells zer35.toArray 25))
    rw [← HW.out]
    go_wp2_with (first
      | (go_loud (refine wpList_run (.agg zer35.toArray) (Op.build 25 #[]) rfl rfl (by kernel_rfl) ?_); go_loud (refine wpList_store_blk rfl _ _ _ rfl (w.heap.size + 1) zer35 (by rfl) (by rfl) 25 zer35 HH.out (info_hd35 _ _ _ _ rfl) rfl (hdL_one _ _ _ _) ?_; intro w19 hz19 hB19 hg19; clear hz19)))
    refine bodyPost_ret (results_blk_tmp2 rfl _ _ (w.heap.size + 1) 25 zer35 _ rfl hB19 Tryz.underlying25 rfl (info_hd35 _ _ _ _ rfl)) rfl ⟨rfl, HG0.out.fresh hg19 (fun i hi => by simp at hi; omega)⟩
  · have d6 : ((so : Int) != 6) = true := by rw [bne_iff_ne]; omega
    clear hs h6
    go_enter Tryz.func14, Tryz.ntmps14
    go_upto_region 1 with (fail)
    change Code.wp _ _ _ _ ((w.alloc (.cells (vC so (headStep t).flag (headStep t).bits (headStep t).text (.slice la (itemsT t).length lc) (.slice ka kn kc)).toArray 42)).alloc (.cells zer35.toArray 25))
    rw [← HW.out]
    go_wp2_with (first
      | (go_loud (refine wpList_run (.agg zer35.toArray) (Op.build 25 #[]) rfl rfl (by kernel_rfl) ?_); go_loud (refine wpList_store_blk rfl _ _ _ rfl (w.heap.size + 1) zer35 (by rfl) (by rfl) 25 zer35 HH.out (info_hd35 _ _ _ _ rfl) rfl (hdL_one _ _ _ _) ?_; intro w19 hz19 hB19 hg19; clear hz19)))
    refine bodyPost_ret (results_blk_tmp2 rfl _ _ (w.heap.size + 1) 25 zer35 _ rfl hB19 Tryz.underlying25 rfl (info_hd35 _ _ _ _ rfl)) rfl ⟨rfl, HG0.out.fresh hg19 (fun i hi => by simp at hi; omega)⟩
end Go.Proofs.YtfdhgakalojahaaGreatDoor

namespace Go.Proofs.YtfdhgakalojahaaGreatDoor
open Go Go.RowKit Tree

theorem kO_l : (kO.toList == [111, 114, 105, 103, 105, 110]) = true := by rw [show kO.toList = [111, 114, 105, 103, 105, 110] from by rw [ByteArray.toList_eq]; rfl]; rfl
theorem kR_l : (kR.toList == [114, 111, 111, 116]) = true := by rw [show kR.toList = [114, 111, 111, 116] from by rw [ByteArray.toList_eq]; rfl]; rfl
theorem kS_l : (kS.toList == [115, 105, 122, 101]) = true := by rw [show kS.toList = [115, 105, 122, 101] from by rw [ByteArray.toList_eq]; rfl]; rfl
theorem kT_l : (kT.toList == [116, 105, 109, 101]) = true := by rw [show kT.toList = [116, 105, 109, 101] from by rw [ByteArray.toList_eq]; rfl]; rfl

theorem txt_lit {x y : ByteArray} {l : List UInt8} (h : x ≠ y) (hl : (y.toList == l) = true) : (x.toList == l) = false := by
  rw [← eq_of_beq hl]; exact txt_ne h

set_option maxRecDepth 200000 in
set_option maxHeartbeats 8000000 in
theorem r30_Read_keys (k0 k1 k2 k3 : ByteArray) (l : List Tr) (F : Nat → Prop) (cs : List Value) (w : World) (hv : ValAt w F (.obj [k0, k1, k2, k3] l) cs) (hs : [k0, k1, k2, k3] ≠ keys4) :
    Calls Tryz.prog 14 #[.agg cs.toArray] w (R30No ⟨#[]⟩ w) := by
  simp only [ValAt] at hv
  obtain ⟨la, lc, ka, kc, xs, rfl, _, hk, _⟩ := hv
  obtain ⟨ln, hln⟩ : ∃ n, n = l.length := ⟨_, rfl⟩
  rw [← hln]
  clear hln
  obtain ⟨b, o, rfl, hkc⟩ : ∃ b o, ka = some ⟨b, o, none⟩ ∧ ∀ i v, (strs [k0, k1, k2, k3])[i]? = some v → w.cell? ⟨b, o + i, none⟩ = some v := by
    rcases hk with ⟨h, _⟩ | ⟨b, o, c, h1, _, h3⟩
    · simp [strs] at h
    · injection h1 with h1 _ _; exact ⟨b, o, h1, h3⟩
  obtain ⟨w0, hw0⟩ : ∃ x, x = (w.alloc (.cells (vC 6 false 0 noB (.slice la ln lc) (.slice (some ⟨b, o, none⟩) 4 kc)).toArray 42)).alloc (.cells zer35.toArray 25) := ⟨_, rfl⟩
  have HX : Hid (Blk w0 w.heap.size (vC 6 false 0 noB (.slice la ln lc) (.slice (some ⟨b, o, none⟩) 4 kc)) 42) := by rw [hw0]; exact Lib.hid ((Blk.new w _ _).alloc _)
  have HH : Hid (Blk w0 (w.heap.size + 1) zer35 25) := by rw [hw0]; exact Lib.hid (Blk.new1 w _ zer35 _)
  have HG0 : Hid (Chg w w0 []) := by rw [hw0]; exact Lib.hid (((Chg.refl w []).alloc _).alloc _)
  obtain ⟨x1, x2, x10, x11, x12, x13, x14, x15⟩ := Blk.cells6 HX.out
  have c0 : w0.cell? ⟨b, o, none⟩ = some (.string k0) := by have := HG0.out.keeps (hkc 0 _ rfl); rwa [Nat.add_zero] at this
  have c1 : w0.cell? ⟨b, o + 1, none⟩ = some (.string k1) := HG0.out.keeps (hkc 1 _ rfl)
  have c2 : w0.cell? ⟨b, o + 2, none⟩ = some (.string k2) := HG0.out.keeps (hkc 2 _ rfl)
  have c3 : w0.cell? ⟨b, o + 3, none⟩ = some (.string k3) := HG0.out.keeps (hkc 3 _ rfl)
  have HW := Lib.hid hw0
  have HS := Lib.hid hs
  clear hw0 hs hk hkc
  rw [vC_arr]
  show Calls _ _ #[.agg #[.int .i64 6, .bool false, .int .u64 0, .string noB, .slice la ln lc, .slice (some ⟨b, o, none⟩) 4 kc]] _ _
  by_cases h0 : k0 = kO
  · subst h0
    by_cases h1 : k1 = kR
    · subst h1
      by_cases h2 : k2 = kS
      · subst h2
        by_cases h3 : k3 = kT
        · subst h3
          exact absurd rfl HS.out
        · have e3 := txt_lit h3 kT_l
          have q0 := kO_l
          have q1 := kR_l
          have q2 := kS_l
          clear HS h3
          go_enter Tryz.func14, Tryz.ntmps14
          go_upto_region 1 with (fail)
          change Code.wp _ _ _ _ ((w.alloc (.cells (vC 6 false 0 noB (.slice la ln lc) (.slice (some ⟨b, o, none⟩) 4 kc)).toArray 42)).alloc (.cells zer35.toArray 25))
          rw [← HW.out]
          go_wp2_with (first
            | (refine wpList_run (.agg zer35.toArray) (Op.build 25 #[]) rfl rfl (by kernel_rfl) ?_; refine wpList_store_blk rfl _ _ _ rfl (w.heap.size + 1) zer35 (by rfl) (by rfl) 25 zer35 HH.out (info_hd35 _ _ _ _ rfl) rfl (hdL_one _ _ _ _) ?_; intro w19 hz19 hB19 hg19; clear hz19)
            | (refine wpList_store_blk rfl _ _ _ rfl (w.heap.size + 1) zer35 (by rfl) (by rfl) 25 zer35 HH.out (info_hd35 _ _ _ _ rfl) rfl (hdL_one _ _ _ _) ?_; intro w19 hz19 hB19 hg19; clear hz19))
          refine bodyPost_ret (results_blk_tmp2 rfl _ _ (w.heap.size + 1) 25 zer35 _ rfl hB19 Tryz.underlying25 rfl (info_hd35 _ _ _ _ rfl)) rfl ⟨rfl, HG0.out.fresh hg19 (fun i hi => by simp at hi; omega)⟩
      · have e2 := txt_lit h2 kS_l
        have q0 := kO_l
        have q1 := kR_l
        clear HS h2
        go_enter Tryz.func14, Tryz.ntmps14
        go_upto_region 1 with (fail)
        change Code.wp _ _ _ _ ((w.alloc (.cells (vC 6 false 0 noB (.slice la ln lc) (.slice (some ⟨b, o, none⟩) 4 kc)).toArray 42)).alloc (.cells zer35.toArray 25))
        rw [← HW.out]
        go_wp2_with (first
          | (refine wpList_run (.agg zer35.toArray) (Op.build 25 #[]) rfl rfl (by kernel_rfl) ?_; refine wpList_store_blk rfl _ _ _ rfl (w.heap.size + 1) zer35 (by rfl) (by rfl) 25 zer35 HH.out (info_hd35 _ _ _ _ rfl) rfl (hdL_one _ _ _ _) ?_; intro w19 hz19 hB19 hg19; clear hz19)
          | (refine wpList_store_blk rfl _ _ _ rfl (w.heap.size + 1) zer35 (by rfl) (by rfl) 25 zer35 HH.out (info_hd35 _ _ _ _ rfl) rfl (hdL_one _ _ _ _) ?_; intro w19 hz19 hB19 hg19; clear hz19))
        refine bodyPost_ret (results_blk_tmp2 rfl _ _ (w.heap.size + 1) 25 zer35 _ rfl hB19 Tryz.underlying25 rfl (info_hd35 _ _ _ _ rfl)) rfl ⟨rfl, HG0.out.fresh hg19 (fun i hi => by simp at hi; omega)⟩
    · have e1 := txt_lit h1 kR_l
      have q0 := kO_l
      clear HS h1
      go_enter Tryz.func14, Tryz.ntmps14
      go_upto_region 1 with (fail)
      change Code.wp _ _ _ _ ((w.alloc (.cells (vC 6 false 0 noB (.slice la ln lc) (.slice (some ⟨b, o, none⟩) 4 kc)).toArray 42)).alloc (.cells zer35.toArray 25))
      rw [← HW.out]
      go_wp2_with (first
        | (refine wpList_run (.agg zer35.toArray) (Op.build 25 #[]) rfl rfl (by kernel_rfl) ?_; refine wpList_store_blk rfl _ _ _ rfl (w.heap.size + 1) zer35 (by rfl) (by rfl) 25 zer35 HH.out (info_hd35 _ _ _ _ rfl) rfl (hdL_one _ _ _ _) ?_; intro w19 hz19 hB19 hg19; clear hz19)
        | (refine wpList_store_blk rfl _ _ _ rfl (w.heap.size + 1) zer35 (by rfl) (by rfl) 25 zer35 HH.out (info_hd35 _ _ _ _ rfl) rfl (hdL_one _ _ _ _) ?_; intro w19 hz19 hB19 hg19; clear hz19))
      refine bodyPost_ret (results_blk_tmp2 rfl _ _ (w.heap.size + 1) 25 zer35 _ rfl hB19 Tryz.underlying25 rfl (info_hd35 _ _ _ _ rfl)) rfl ⟨rfl, HG0.out.fresh hg19 (fun i hi => by simp at hi; omega)⟩
  · have e0 := txt_lit h0 kO_l
    clear HS h0
    go_enter Tryz.func14, Tryz.ntmps14
    go_upto_region 1 with (fail)
    change Code.wp _ _ _ _ ((w.alloc (.cells (vC 6 false 0 noB (.slice la ln lc) (.slice (some ⟨b, o, none⟩) 4 kc)).toArray 42)).alloc (.cells zer35.toArray 25))
    rw [← HW.out]
    go_wp2_with (first
      | (refine wpList_run (.agg zer35.toArray) (Op.build 25 #[]) rfl rfl (by kernel_rfl) ?_; refine wpList_store_blk rfl _ _ _ rfl (w.heap.size + 1) zer35 (by rfl) (by rfl) 25 zer35 HH.out (info_hd35 _ _ _ _ rfl) rfl (hdL_one _ _ _ _) ?_; intro w19 hz19 hB19 hg19; clear hz19)
      | (refine wpList_store_blk rfl _ _ _ rfl (w.heap.size + 1) zer35 (by rfl) (by rfl) 25 zer35 HH.out (info_hd35 _ _ _ _ rfl) rfl (hdL_one _ _ _ _) ?_; intro w19 hz19 hB19 hg19; clear hz19))
    refine bodyPost_ret (results_blk_tmp2 rfl _ _ (w.heap.size + 1) 25 zer35 _ rfl hB19 Tryz.underlying25 rfl (info_hd35 _ _ _ _ rfl)) rfl ⟨rfl, HG0.out.fresh hg19 (fun i hi => by simp at hi; omega)⟩
end Go.Proofs.YtfdhgakalojahaaGreatDoor

namespace Go.Proofs.YtfdhgakalojahaaGreatDoor
open Go Go.RowKit Tree

theorem vC_one {so bi : Int} {fl : Bool} {te : ByteArray} {a b : Option Addr} {n c m d : Nat} (u : Value) (hu : u ∈ vC so fl bi te (.slice a n c) (.slice b m d)) : u.oneCell' = true := by
  simp only [vC, List.mem_cons, List.not_mem_nil, or_false] at hu
  rcases hu with rfl | rfl | rfl | rfl | rfl | rfl <;> rfl

def blkOf : Value → Option Nat
  | .pointer (some a) => some a.block
  | _ => none

def R3V (X lb lo lc : Nat) (cA cB cC cD : List Value) (ci di : Int) (j : Nat) (f : Nat → Value) (w : World) : Prop :=
  match j with
  | 0 => f 0 = .pointer (some ⟨X, 4, none⟩)
  | 1 => f 1 = .slice (some ⟨lb, lo, none⟩) 4 lc
  | 2 => f 2 = .pointer (some ⟨lb, lo, none⟩)
  | 3 => f 3 = .agg cA.toArray
  | 4 => f 4 = .pointer (some ⟨X, 4, none⟩)
  | 5 => f 5 = .slice (some ⟨lb, lo, none⟩) 4 lc
  | 6 => f 6 = .pointer (some ⟨lb, lo + 6, none⟩)
  | 7 => f 7 = .agg cB.toArray
  | 8 => f 8 = .pointer (some ⟨X, 4, none⟩)
  | 9 => f 9 = .slice (some ⟨lb, lo, none⟩) 4 lc
  | 10 => f 10 = .pointer (some ⟨lb, lo + 12, none⟩)
  | 11 => f 11 = .agg cC.toArray
  | 12 => f 12 = .int .i64 ci
  | 13 => f 13 = .pointer (some ⟨X, 4, none⟩)
  | 14 => f 14 = .slice (some ⟨lb, lo, none⟩) 4 lc
  | 15 => f 15 = .pointer (some ⟨lb, lo + 18, none⟩)
  | 16 => f 16 = .agg cD.toArray
  | 17 => f 17 = .int .i64 di
  | 18 => ∃ g, f 18 = .pointer (some ⟨g, 0, none⟩)
  | 19 => ∃ g, f 19 = .pointer (some ⟨g, 0, none⟩)
  | 20 => ∃ g, f 18 = .pointer (some ⟨g, 0, none⟩) ∧ Blk w g cA 42
  | 21 => ∃ g, f 19 = .pointer (some ⟨g, 0, none⟩) ∧ Blk w g cB 42
  | 22 => f 22 = .int .i64 ci
  | 23 => f 23 = .int .i64 di
  | _ => True

def R3I (w0 : World) (f : Nat → Value) (w : World) : Prop :=
  Chg w0 w [] ∧ (∀ g, blkOf (f 18) = some g → w0.heap.size ≤ g ∧ ∃ ds, ds.length = 6 ∧ Blk w g ds 42) ∧
    (∀ g, blkOf (f 19) = some g → w0.heap.size ≤ g ∧ ∃ ds, ds.length = 6 ∧ Blk w g ds 42) ∧ (∀ g, blkOf (f 18) = some g → blkOf (f 19) = some g → False)

def R3S (i : Nat) (f : Nat → Value) (w w' : World) : Prop := Chg w w' (if i = 20 then (blkOf (f 18)).toList else if i = 21 then (blkOf (f 19)).toList else [])

theorem R3S.plain {i : Nat} {f : Nat → Value} {w w' : World} (h20 : i ≠ 20) (h21 : i ≠ 21) (h : Chg w w' []) : R3S i f w w' := by
  unfold R3S
  rw [if_neg h20, if_neg h21]
  exact h

theorem R3I.step {w0 : World} {f : Nat → Value} {w w' : World} {i : Nat} {v : Value} (h : R3I w0 f w) (h18 : 18 ≠ i) (h19 : 19 ≠ i) (hg : Chg w w' []) : R3I w0 (upd f i v) w' := by
  obtain ⟨h1, h2, h3, h4⟩ := h
  unfold R3I
  rw [upd_other f v h18, upd_other f v h19]
  refine ⟨h1.trans hg, fun g e => ?_, fun g e => ?_, h4⟩
  · obtain ⟨a, ds, b, c⟩ := h2 g e; exact ⟨a, ds, b, c.kept hg (by simp)⟩
  · obtain ⟨a, ds, b, c⟩ := h3 g e; exact ⟨a, ds, b, c.kept hg (by simp)⟩

theorem R3I.new18 {w0 : World} {f : Nat → Value} {w : World} (h : R3I w0 f w) (ds : List Value) (hd : ds.length = 6) : R3I w0 (upd f 18 (.pointer (some ⟨w.heap.size, 0, none⟩))) (w.alloc (.cells ds.toArray 42)) := by
  obtain ⟨h1, h2, h3, h4⟩ := h
  unfold R3I
  rw [upd_same, upd_other f _ (by decide)]
  refine ⟨h1.alloc _, fun g e => ?_, fun g e => ?_, fun g e e' => ?_⟩
  · injection e with e; subst e; exact ⟨h1.size, ds, hd, Blk.new w ds _⟩
  · obtain ⟨a, ds, b, c⟩ := h3 g e; exact ⟨a, ds, b, c.alloc _⟩
  · injection e with e; subst e
    obtain ⟨_, _, _, c⟩ := h3 _ e'
    exact Nat.lt_irrefl _ c.lt

theorem R3I.new19 {w0 : World} {f : Nat → Value} {w : World} (h : R3I w0 f w) (ds : List Value) (hd : ds.length = 6) : R3I w0 (upd f 19 (.pointer (some ⟨w.heap.size, 0, none⟩))) (w.alloc (.cells ds.toArray 42)) := by
  obtain ⟨h1, h2, h3, h4⟩ := h
  unfold R3I
  rw [upd_same, upd_other f _ (by decide)]
  refine ⟨h1.alloc _, fun g e => ?_, fun g e => ?_, fun g e e' => ?_⟩
  · obtain ⟨a, ds, b, c⟩ := h2 g e; exact ⟨a, ds, b, c.alloc _⟩
  · injection e with e; subst e; exact ⟨h1.size, ds, hd, Blk.new w ds _⟩
  · injection e' with e'; subst e'
    obtain ⟨_, _, _, c⟩ := h2 _ e
    exact Nat.lt_irrefl _ c.lt

theorem R3I.put18 {w0 : World} {f : Nat → Value} {w w' : World} {g : Nat} {ds : List Value} (h : R3I w0 f w) (hf : blkOf (f 18) = some g) (hg : Chg w w' [g]) (hb : Blk w' g ds 42) (hd : ds.length = 6) : R3I w0 (upd f 20 undef) w' := by
  obtain ⟨h1, h2, h3, h4⟩ := h
  unfold R3I
  rw [upd_other f _ (by decide), upd_other f _ (by decide)]
  have hge := (h2 g hf).1
  refine ⟨h1.fresh hg (fun i hi => by simp at hi; omega), fun k e => ?_, fun k e => ?_, h4⟩
  · rw [hf] at e; injection e with e; subst e; exact ⟨hge, ds, hd, hb⟩
  · obtain ⟨a, ds', b, c⟩ := h3 k e
    exact ⟨a, ds', b, c.kept hg (by simp only [List.mem_singleton]; intro e2; subst e2; exact h4 _ hf e)⟩

theorem R3I.put19 {w0 : World} {f : Nat → Value} {w w' : World} {g : Nat} {ds : List Value} (h : R3I w0 f w) (hf : blkOf (f 19) = some g) (hg : Chg w w' [g]) (hb : Blk w' g ds 42) (hd : ds.length = 6) : R3I w0 (upd f 21 undef) w' := by
  obtain ⟨h1, h2, h3, h4⟩ := h
  unfold R3I
  rw [upd_other f _ (by decide), upd_other f _ (by decide)]
  have hge := (h3 g hf).1
  refine ⟨h1.fresh hg (fun i hi => by simp at hi; omega), fun k e => ?_, fun k e => ?_, h4⟩
  · obtain ⟨a, ds', b, c⟩ := h2 k e
    exact ⟨a, ds', b, c.kept hg (by simp only [List.mem_singleton]; intro e2; subst e2; exact h4 _ e hf)⟩
  · rw [hf] at e; injection e with e; subst e; exact ⟨hge, ds, hd, hb⟩

theorem R3V.stable (X lb lo lc : Nat) (cA cB cC cD : List Value) (ci di : Int) {w0 : World} (i j : Nat) (f : Nat → Value) (v : Value) (w w' : World) (hj : j ≠ i) (hd : j = 20 → i ≠ 18) (hd' : j = 21 → i ≠ 19)
    (h : R3V X lb lo lc cA cB cC cD ci di j f w) (hI : R3I w0 f w) (hs : R3S i f w w') : R3V X lb lo lc cA cB cC cD ci di j (upd f i v) w' := by
  match j, hj, hd, hd', h with
  | 0, hj, _, _, h => exact (upd_other f v hj).trans h
  | 1, hj, _, _, h => exact (upd_other f v hj).trans h
  | 2, hj, _, _, h => exact (upd_other f v hj).trans h
  | 3, hj, _, _, h => exact (upd_other f v hj).trans h
  | 4, hj, _, _, h => exact (upd_other f v hj).trans h
  | 5, hj, _, _, h => exact (upd_other f v hj).trans h
  | 6, hj, _, _, h => exact (upd_other f v hj).trans h
  | 7, hj, _, _, h => exact (upd_other f v hj).trans h
  | 8, hj, _, _, h => exact (upd_other f v hj).trans h
  | 9, hj, _, _, h => exact (upd_other f v hj).trans h
  | 10, hj, _, _, h => exact (upd_other f v hj).trans h
  | 11, hj, _, _, h => exact (upd_other f v hj).trans h
  | 12, hj, _, _, h => exact (upd_other f v hj).trans h
  | 13, hj, _, _, h => exact (upd_other f v hj).trans h
  | 14, hj, _, _, h => exact (upd_other f v hj).trans h
  | 15, hj, _, _, h => exact (upd_other f v hj).trans h
  | 16, hj, _, _, h => exact (upd_other f v hj).trans h
  | 17, hj, _, _, h => exact (upd_other f v hj).trans h
  | 22, hj, _, _, h => exact (upd_other f v hj).trans h
  | 23, hj, _, _, h => exact (upd_other f v hj).trans h
  | 18, hj, _, _, ⟨g, h⟩ => exact ⟨g, (upd_other f v hj).trans h⟩
  | 19, hj, _, _, ⟨g, h⟩ => exact ⟨g, (upd_other f v hj).trans h⟩
  | 20, hj, hd, _, ⟨g, h, hb⟩ =>
    refine ⟨g, (upd_other f v (fun e => hd rfl e.symm)).trans h, hb.kept hs ?_⟩
    rw [if_neg (fun e => hj e.symm)]
    split
    · intro hm
      have h19 : blkOf (f 19) = some g := by simpa using hm
      exact hI.2.2.2 g (by rw [h]; rfl) h19
    · simp
  | 21, hj, _, hd', ⟨g, h, hb⟩ =>
    refine ⟨g, (upd_other f v (fun e => hd' rfl e.symm)).trans h, hb.kept hs ?_⟩
    split
    · intro hm
      have h18 : blkOf (f 18) = some g := by simpa using hm
      exact hI.2.2.2 g h18 (by rw [h]; rfl)
    · rw [if_neg (fun e => hj e.symm)]; simp
  | _ + 24, _, _, _, _ => exact trivial
end Go.Proofs.YtfdhgakalojahaaGreatDoor

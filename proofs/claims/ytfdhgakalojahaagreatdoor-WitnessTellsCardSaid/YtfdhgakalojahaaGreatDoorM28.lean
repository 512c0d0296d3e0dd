/- WALKS: the reference's layer 2: the digest of nothing. WALKS: the digest of nothing: the program's and the reference's are one. -/
import Derived.Deep.RegionWith
import Derived.Test.YtfdhgakalojahaaGreatDoorM27
import Derived.Test.YtfdhgakalojahaaGreatDoorM23
import Derived.Test.YtfdhgakalojahaaGreatDoorM12
set_option linter.unusedSimpArgs false
set_option linter.unusedVariables false
set_option linter.unnecessarySimpa false
set_option linter.unusedSectionVars false
namespace Go.Proofs.YtfdhgakalojahaaGreatDoor
open Go Go.RowKit

theorem info_32 : (Tryz.prog.info? 22).map (·.size) = some 32 := by kernel_rfl

def SumPost (s : Sha.St) (w : World) (e : Ending) (w' : World) : Prop := e = .returned (.agg (dCells (Sha.round (rootV true) s) 32).toArray) ∧ Chg w w' []

theorem HC_arr (a0 a1 a2 a3 a4 a5 a6 a7 n : Int) (v : Value) : (HC ⟨a0, a1, a2, a3, a4, a5, a6, a7⟩ n v).toArray = #[.int .u32 a0, .int .u32 a1, .int .u32 a2, .int .u32 a3, .int .u32 a4, .int .u32 a5, .int .u32 a6, .int .u32 a7, .int .u64 n, v] := rfl

/-- what stands in memory while a digest is told -/
structure SS (w wr : World) (cs : List Value) : Prop where
  chg : Chg w wr []
  bH : Blk wr w.heap.size cs 215
  bR : Blk wr (w.heap.size + 1) (List.replicate 32 (.int .u8 0)) 22

theorem SS.kept {w wr wr' : World} {cs : List Value} (h : SS w wr cs) (hg : Chg wr wr' []) : SS w wr' cs := ⟨h.chg.trans hg, h.bH.kept hg (by simp), h.bR.kept hg (by simp)⟩
theorem SS.drew {w wr : World} {cs : List Value} (h : SS w wr cs) : SS w wr.drew cs := ⟨h.chg.drew, h.bH.drew, h.bR.drew⟩
theorem SS.far {w wr : World} {cs : List Value} (h : SS w wr cs) (p : Addr) (v : Value) (hp : w.heap.size + 2 ≤ p.block) : SS w (wr.setCell p v) cs :=
  ⟨h.chg.setCell _ _ (by omega), h.bH.set_other _ _ (by omega), h.bR.set_other _ _ (by omega)⟩

theorem SS.cells {w wr : World} {a0 a1 a2 a3 a4 a5 a6 a7 n : Int} {v : Value} (h : SS w wr (HC ⟨a0, a1, a2, a3, a4, a5, a6, a7⟩ n v)) :
    wr.cell? ⟨w.heap.size, 0, none⟩ = some (.int .u32 a0) ∧ wr.cell? ⟨w.heap.size, 1, none⟩ = some (.int .u32 a1) ∧ wr.cell? ⟨w.heap.size, 2, none⟩ = some (.int .u32 a2) ∧ wr.cell? ⟨w.heap.size, 3, none⟩ = some (.int .u32 a3) ∧
    wr.cell? ⟨w.heap.size, 4, none⟩ = some (.int .u32 a4) ∧ wr.cell? ⟨w.heap.size, 5, none⟩ = some (.int .u32 a5) ∧ wr.cell? ⟨w.heap.size, 6, none⟩ = some (.int .u32 a6) ∧ wr.cell? ⟨w.heap.size, 7, none⟩ = some (.int .u32 a7) ∧
    wr.cell? ⟨w.heap.size, 8, none⟩ = some (.int .u64 n) ∧ wr.cell? ⟨w.heap.size, 9, none⟩ = some v :=
  ⟨by rw [h.bH.cell]; rfl, by rw [h.bH.cell]; rfl, by rw [h.bH.cell]; rfl, by rw [h.bH.cell]; rfl, by rw [h.bH.cell]; rfl, by rw [h.bH.cell]; rfl, by rw [h.bH.cell]; rfl, by rw [h.bH.cell]; rfl, by rw [h.bH.cell]; rfl, by rw [h.bH.cell]; rfl⟩

theorem SS.words {w wr : World} {a0 a1 a2 a3 a4 a5 a6 a7 n : Int} {v : Value} (h : SS w wr (HC ⟨a0, a1, a2, a3, a4, a5, a6, a7⟩ n v)) (r0 r1 r2 r3 r4 r5 r6 r7 n' : Int) (v' : Value) :
    SS w ((((((((((wr.setCell ⟨w.heap.size, 0, none⟩ (.int .u32 r0)).setCell ⟨w.heap.size, 1, none⟩ (.int .u32 r1)).setCell ⟨w.heap.size, 2, none⟩ (.int .u32 r2)).setCell ⟨w.heap.size, 3, none⟩ (.int .u32 r3)).setCell ⟨w.heap.size, 4, none⟩ (.int .u32 r4)).setCell ⟨w.heap.size, 5, none⟩ (.int .u32 r5)).setCell ⟨w.heap.size, 6, none⟩ (.int .u32 r6)).setCell ⟨w.heap.size, 7, none⟩ (.int .u32 r7)).setCell ⟨w.heap.size, 8, none⟩ (.int .u64 n')).setCell ⟨w.heap.size, 9, none⟩ v') (HC ⟨r0, r1, r2, r3, r4, r5, r6, r7⟩ n' v') :=
  ⟨((((((((((h.chg.setCell _ _ (by simp)).setCell _ _ (by simp)).setCell _ _ (by simp)).setCell _ _ (by simp)).setCell _ _ (by simp)).setCell _ _ (by simp)).setCell _ _ (by simp)).setCell _ _ (by simp)).setCell _ _ (by simp)).setCell _ _ (by simp)), ((((((((((h.bH.set 0 _).set 1 _).set 2 _).set 3 _).set 4 _).set 5 _).set 6 _).set 7 _).set 8 _).set 9 _), ((((((((((h.bR.set_other _ _ (by simp)).set_other _ _ (by simp)).set_other _ _ (by simp)).set_other _ _ (by simp)).set_other _ _ (by simp)).set_other _ _ (by simp)).set_other _ _ (by simp)).set_other _ _ (by simp)).set_other _ _ (by simp)).set_other _ _ (by simp))⟩

set_option maxRecDepth 100000 in
set_option maxHeartbeats 16000000 in
theorem r2_Sum (s : Sha.St) (a : Option Addr) (c : Nat) (w : World) :
    Calls Tryz.prog 114 #[.agg (HC s 0 (.slice a 0 c)).toArray] w (SumPost s w) := by
  have hcb : (Value.agg (HC s 0 (.slice a 0 c)).toArray).cells = (HC s 0 (.slice a 0 c)).toArray := rfl
  obtain ⟨w0, hw0⟩ : ∃ x, x = (w.alloc (.cells (HC s 0 (.slice a 0 c)).toArray 215)).alloc (.cells (List.replicate 32 (.int .u8 0)).toArray 22) := ⟨_, rfl⟩
  have HS0 : Hid (SS w w0 (HC s 0 (.slice a 0 c))) := by
    rw [hw0]
    have h := Blk.new (w.alloc (.cells (HC s 0 (.slice a 0 c)).toArray 215)) (List.replicate 32 (.int .u8 0)) 22
    rw [World.size_alloc] at h
    exact Lib.hid ⟨((Chg.refl w []).alloc _).alloc _, (Blk.new w _ _).alloc _, h⟩
  have HW := Lib.hid hw0
  clear hw0
  obtain ⟨r, hr⟩ : ∃ r, r = Sha.round (rootV true) s := ⟨_, rfl⟩
  have HRR := Lib.hid hr
  have HWR : Hid (∀ (g cap : Nat) w, (∀ i, i < 64 → w.cell? ⟨g, i, none⟩ = some (.int .u8 (Sha.bv i))) → Calls Tryz.prog 113 #[.agg (HC s 0 (.slice a 0 c)).toArray, .slice (some ⟨g, 0, none⟩) 64 cap] w fun e w' => e = .returned (.agg (HC r 1 (.slice none 0 0)).toArray) ∧ Chg w w' []) := by
    intro g cap w h; rw [hr]; exact r2_Write s a c g cap w h
  have HLN : Hid (∀ w, Calls Tryz.prog 136 #[.agg (HC s 0 (.slice a 0 c)).toArray] w fun e w' => e = .returned (.int .u64 0) ∧ Chg w w' []) := fun w => r2_Len s a c w
  clear hr
  go_enter Tryz.func114, Tryz.ntmps114
  go_wp2_with fail
  change Code.wp _ _ _ _ ((w.alloc (.cells (HC s 0 (.slice a 0 c)).toArray 215)).alloc (.cells (List.replicate 32 (.int .u8 0)).toArray 22))
  rw [← HW.out]
  obtain ⟨a0, a1, a2, a3, a4, a5, a6, a7⟩ := s
  obtain ⟨r0, r1, r2, r3, r4, r5, r6, r7⟩ := r
  rw [HC_arr] at hcb HWR HLN ⊢
  rw [HC_arr] at HWR
  obtain ⟨q0, q1, q2, q3, q4, q5, q6, q7, q8, q9⟩ := HS0.out.cells
  go_region_with (first
    | (go_at_call 136; refine (HLN.out _).mono ?_; rintro e w1 ⟨rfl, hg1⟩; have HS1 := Lib.hid (HS0.out.drew.kept hg1); clear q0 q1 q2 q3 q4 q5 q6 q7 q8 q9; obtain ⟨q0, q1, q2, q3, q4, q5, q6, q7, q8, q9⟩ := HS1.out.cells; clear hg1)
    | (go_at_call 135; refine (r2_Pad _).mono ?_; rintro e w2 ⟨g2, cap2, rfl, hL2, hg2⟩; have HL2 := Lib.hid hL2; have HS2 := Lib.hid (HS1.out.kept hg2); clear q0 q1 q2 q3 q4 q5 q6 q7 q8 q9; obtain ⟨q0, q1, q2, q3, q4, q5, q6, q7, q8, q9⟩ := HS2.out.cells; clear hg2 hL2)
    | (go_at_call 113; refine (HWR.out g2 cap2 _ (fun i hi => HL2.out.cell rfl i _ (Sha.bCells_get hi))).mono ?_; rintro e w3 ⟨rfl, hg3⟩; have HS3 := Lib.hid (HS2.out.kept hg3); clear q0 q1 q2 q3 q4 q5 q6 q7 q8 q9; obtain ⟨q0, q1, q2, q3, q4, q5, q6, q7, q8, q9⟩ := HS3.out.cells; have qf : ∀ j, w3.frozen? ⟨w.heap.size, j, none⟩ = false := (fun j => HS3.out.bH.frozen j); have ql := HS3.out.bH.lt; clear hg3))
  all_goals
    obtain ⟨w4, hw4⟩ : ∃ x, x = (((((((((w3.setCell ⟨w.heap.size, 0, none⟩ (.int .u32 r0)).setCell ⟨w.heap.size, 1, none⟩ (.int .u32 r1)).setCell ⟨w.heap.size, 2, none⟩ (.int .u32 r2)).setCell ⟨w.heap.size, 3, none⟩ (.int .u32 r3)).setCell ⟨w.heap.size, 4, none⟩ (.int .u32 r4)).setCell ⟨w.heap.size, 5, none⟩ (.int .u32 r5)).setCell ⟨w.heap.size, 6, none⟩ (.int .u32 r6)).setCell ⟨w.heap.size, 7, none⟩ (.int .u32 r7)).setCell ⟨w.heap.size, 8, none⟩ (.int .u64 1)).setCell ⟨w.heap.size, 9, none⟩ (.slice none 0 0) := ⟨_, rfl⟩
    have HS4 : Hid (SS w w4 (HC ⟨r0, r1, r2, r3, r4, r5, r6, r7⟩ 1 (.slice none 0 0))) := by rw [hw4]; exact Lib.hid (HS3.out.words r0 r1 r2 r3 r4 r5 r6 r7 1 (.slice none 0 0))
    rw [← hw4]
    clear hw4 HS3 HS2 HS1 HL2 q0 q1 q2 q3 q4 q5 q6 q7 q8 q9 qf ql w3 w2 w1 HS0
    go_wp2_with fail
    obtain ⟨D, hD⟩ : ∃ D, D = w4.heap.size := ⟨_, rfl⟩
    have hXD : w.heap.size + 1 < D := by rw [hD]; exact HS4.out.bR.lt
    obtain ⟨w5, hw5⟩ : ∃ x, x = w4.alloc (.cells (List.replicate 32 (.int .u8 0)).toArray 22) := ⟨_, rfl⟩
    have HS5 : Hid (SS w w5 (HC ⟨r0, r1, r2, r3, r4, r5, r6, r7⟩ 1 (.slice none 0 0))) := by rw [hw5]; exact Lib.hid ⟨HS4.out.chg.alloc _, HS4.out.bH.alloc _, HS4.out.bR.alloc _⟩
    have HB5 : Hid (Blk w5 D (dCells ⟨r0, r1, r2, r3, r4, r5, r6, r7⟩ 0) 22) := by rw [hw5, hD, dCells_zero]; exact Lib.hid (Blk.new _ _ _)
    change Code.wp _ _ _ _ (w4.alloc (.cells (List.replicate 32 (.int .u8 0)).toArray 22))
    rw [← hw5, ← hD]
    clear hw5 hD HS4 w4
    go_loopw [4] (fun v wr => ∃ i : Nat, i ≤ 32 ∧ v = .int .i64 i ∧ SS w wr (HC ⟨r0, r1, r2, r3, r4, r5, r6, r7⟩ 1 (.slice none 0 0)) ∧ Blk wr D (dCells ⟨r0, r1, r2, r3, r4, r5, r6, r7⟩ i) 22) (fun v _ => 32 - (intOf v).toNat)
    case atStart => exact ⟨0, by omega, rfl, HS5.out, HB5.out⟩
    case round =>
      clear HS5 HB5
      obtain ⟨wb, rfl⟩ : ∃ x, x = wr := ⟨_, rfl⟩
      obtain ⟨i, hi, rfl, hS, hB⟩ := hrel
      have HS := Lib.hid hS
      have HB := Lib.hid hB
      by_cases hlt : i < 32
      · obtain ⟨q0, q1, q2, q3, q4, q5, q6, q7, q8, q9⟩ := hS.cells
        have cd : wb.cell? ⟨D, i, none⟩ = some (.int .u8 0) := by rw [hB.cell, dCells_get hlt, if_neg (by omega)]
        have fd : ∀ j, wb.frozen? ⟨D, j, none⟩ = false := fun j => hB.frozen j
        have ld := hB.lt
        clear hS hB
        have hc : i = 0 ∨ i = 1 ∨ i = 2 ∨ i = 3 ∨ i = 4 ∨ i = 5 ∨ i = 6 ∨ i = 7 ∨ i = 8 ∨ i = 9 ∨ i = 10 ∨ i = 11 ∨ i = 12 ∨ i = 13 ∨ i = 14 ∨ i = 15 ∨ i = 16 ∨ i = 17 ∨ i = 18 ∨ i = 19 ∨ i = 20 ∨ i = 21 ∨ i = 22 ∨ i = 23 ∨ i = 24 ∨ i = 25 ∨ i = 26 ∨ i = 27 ∨ i = 28 ∨ i = 29 ∨ i = 30 ∨ i = 31 := by omega
        clear hlt hi
        rcases hc with rfl | rfl | rfl | rfl | rfl | rfl | rfl | rfl | rfl | rfl | rfl | rfl | rfl | rfl | rfl | rfl | rfl | rfl | rfl | rfl | rfl | rfl | rfl | rfl | rfl | rfl | rfl | rfl | rfl | rfl | rfl | rfl
        · go_wp2
          go_roundw
          case rel =>
            refine ⟨1, by omega, rfl, HS.out.far _ _ (by simp; omega), ?_⟩
            have h2 := HB.out.set 0 (.int .u8 (dg ⟨r0, r1, r2, r3, r4, r5, r6, r7⟩ 0))
            rw [dCells_set, show dg ⟨r0, r1, r2, r3, r4, r5, r6, r7⟩ 0 = r0 / 16777216 % 256 from rfl] at h2
            simpa using h2
          case measure => simp [intOf]
        · go_wp2
          go_roundw
          case rel =>
            refine ⟨2, by omega, rfl, HS.out.far _ _ (by simp; omega), ?_⟩
            have h2 := HB.out.set 1 (.int .u8 (dg ⟨r0, r1, r2, r3, r4, r5, r6, r7⟩ 1))
            rw [dCells_set, show dg ⟨r0, r1, r2, r3, r4, r5, r6, r7⟩ 1 = r0 / 65536 % 256 from rfl] at h2
            simpa using h2
          case measure => simp [intOf]
        · go_wp2
          go_roundw
          case rel =>
            refine ⟨3, by omega, rfl, HS.out.far _ _ (by simp; omega), ?_⟩
            have h2 := HB.out.set 2 (.int .u8 (dg ⟨r0, r1, r2, r3, r4, r5, r6, r7⟩ 2))
            rw [dCells_set, show dg ⟨r0, r1, r2, r3, r4, r5, r6, r7⟩ 2 = r0 / 256 % 256 from rfl] at h2
            simpa using h2
          case measure => simp [intOf]
        · go_wp2
          go_roundw
          case rel =>
            refine ⟨4, by omega, rfl, HS.out.far _ _ (by simp; omega), ?_⟩
            have h2 := HB.out.set 3 (.int .u8 (dg ⟨r0, r1, r2, r3, r4, r5, r6, r7⟩ 3))
            rw [dCells_set, show dg ⟨r0, r1, r2, r3, r4, r5, r6, r7⟩ 3 = r0 / 1 % 256 from rfl] at h2
            simpa using h2
          case measure => simp [intOf]
        · go_wp2
          go_roundw
          case rel =>
            refine ⟨5, by omega, rfl, HS.out.far _ _ (by simp; omega), ?_⟩
            have h2 := HB.out.set 4 (.int .u8 (dg ⟨r0, r1, r2, r3, r4, r5, r6, r7⟩ 4))
            rw [dCells_set, show dg ⟨r0, r1, r2, r3, r4, r5, r6, r7⟩ 4 = r1 / 16777216 % 256 from rfl] at h2
            simpa using h2
          case measure => simp [intOf]
        · go_wp2
          go_roundw
          case rel =>
            refine ⟨6, by omega, rfl, HS.out.far _ _ (by simp; omega), ?_⟩
            have h2 := HB.out.set 5 (.int .u8 (dg ⟨r0, r1, r2, r3, r4, r5, r6, r7⟩ 5))
            rw [dCells_set, show dg ⟨r0, r1, r2, r3, r4, r5, r6, r7⟩ 5 = r1 / 65536 % 256 from rfl] at h2
            simpa using h2
          case measure => simp [intOf]
        · go_wp2
          go_roundw
          case rel =>
            refine ⟨7, by omega, rfl, HS.out.far _ _ (by simp; omega), ?_⟩
            have h2 := HB.out.set 6 (.int .u8 (dg ⟨r0, r1, r2, r3, r4, r5, r6, r7⟩ 6))
            rw [dCells_set, show dg ⟨r0, r1, r2, r3, r4, r5, r6, r7⟩ 6 = r1 / 256 % 256 from rfl] at h2
            simpa using h2
          case measure => simp [intOf]
        · go_wp2
          go_roundw
          case rel =>
            refine ⟨8, by omega, rfl, HS.out.far _ _ (by simp; omega), ?_⟩
            have h2 := HB.out.set 7 (.int .u8 (dg ⟨r0, r1, r2, r3, r4, r5, r6, r7⟩ 7))
            rw [dCells_set, show dg ⟨r0, r1, r2, r3, r4, r5, r6, r7⟩ 7 = r1 / 1 % 256 from rfl] at h2
            simpa using h2
          case measure => simp [intOf]
        · go_wp2
          go_roundw
          case rel =>
            refine ⟨9, by omega, rfl, HS.out.far _ _ (by simp; omega), ?_⟩
            have h2 := HB.out.set 8 (.int .u8 (dg ⟨r0, r1, r2, r3, r4, r5, r6, r7⟩ 8))
            rw [dCells_set, show dg ⟨r0, r1, r2, r3, r4, r5, r6, r7⟩ 8 = r2 / 16777216 % 256 from rfl] at h2
            simpa using h2
          case measure => simp [intOf]
        · go_wp2
          go_roundw
          case rel =>
            refine ⟨10, by omega, rfl, HS.out.far _ _ (by simp; omega), ?_⟩
            have h2 := HB.out.set 9 (.int .u8 (dg ⟨r0, r1, r2, r3, r4, r5, r6, r7⟩ 9))
            rw [dCells_set, show dg ⟨r0, r1, r2, r3, r4, r5, r6, r7⟩ 9 = r2 / 65536 % 256 from rfl] at h2
            simpa using h2
          case measure => simp [intOf]
        · go_wp2
          go_roundw
          case rel =>
            refine ⟨11, by omega, rfl, HS.out.far _ _ (by simp; omega), ?_⟩
            have h2 := HB.out.set 10 (.int .u8 (dg ⟨r0, r1, r2, r3, r4, r5, r6, r7⟩ 10))
            rw [dCells_set, show dg ⟨r0, r1, r2, r3, r4, r5, r6, r7⟩ 10 = r2 / 256 % 256 from rfl] at h2
            simpa using h2
          case measure => simp [intOf]
        · go_wp2
          go_roundw
          case rel =>
            refine ⟨12, by omega, rfl, HS.out.far _ _ (by simp; omega), ?_⟩
            have h2 := HB.out.set 11 (.int .u8 (dg ⟨r0, r1, r2, r3, r4, r5, r6, r7⟩ 11))
            rw [dCells_set, show dg ⟨r0, r1, r2, r3, r4, r5, r6, r7⟩ 11 = r2 / 1 % 256 from rfl] at h2
            simpa using h2
          case measure => simp [intOf]
        · go_wp2
          go_roundw
          case rel =>
            refine ⟨13, by omega, rfl, HS.out.far _ _ (by simp; omega), ?_⟩
            have h2 := HB.out.set 12 (.int .u8 (dg ⟨r0, r1, r2, r3, r4, r5, r6, r7⟩ 12))
            rw [dCells_set, show dg ⟨r0, r1, r2, r3, r4, r5, r6, r7⟩ 12 = r3 / 16777216 % 256 from rfl] at h2
            simpa using h2
          case measure => simp [intOf]
        · go_wp2
          go_roundw
          case rel =>
            refine ⟨14, by omega, rfl, HS.out.far _ _ (by simp; omega), ?_⟩
            have h2 := HB.out.set 13 (.int .u8 (dg ⟨r0, r1, r2, r3, r4, r5, r6, r7⟩ 13))
            rw [dCells_set, show dg ⟨r0, r1, r2, r3, r4, r5, r6, r7⟩ 13 = r3 / 65536 % 256 from rfl] at h2
            simpa using h2
          case measure => simp [intOf]
        · go_wp2
          go_roundw
          case rel =>
            refine ⟨15, by omega, rfl, HS.out.far _ _ (by simp; omega), ?_⟩
            have h2 := HB.out.set 14 (.int .u8 (dg ⟨r0, r1, r2, r3, r4, r5, r6, r7⟩ 14))
            rw [dCells_set, show dg ⟨r0, r1, r2, r3, r4, r5, r6, r7⟩ 14 = r3 / 256 % 256 from rfl] at h2
            simpa using h2
          case measure => simp [intOf]
        · go_wp2
          go_roundw
          case rel =>
            refine ⟨16, by omega, rfl, HS.out.far _ _ (by simp; omega), ?_⟩
            have h2 := HB.out.set 15 (.int .u8 (dg ⟨r0, r1, r2, r3, r4, r5, r6, r7⟩ 15))
            rw [dCells_set, show dg ⟨r0, r1, r2, r3, r4, r5, r6, r7⟩ 15 = r3 / 1 % 256 from rfl] at h2
            simpa using h2
          case measure => simp [intOf]
        · go_wp2
          go_roundw
          case rel =>
            refine ⟨17, by omega, rfl, HS.out.far _ _ (by simp; omega), ?_⟩
            have h2 := HB.out.set 16 (.int .u8 (dg ⟨r0, r1, r2, r3, r4, r5, r6, r7⟩ 16))
            rw [dCells_set, show dg ⟨r0, r1, r2, r3, r4, r5, r6, r7⟩ 16 = r4 / 16777216 % 256 from rfl] at h2
            simpa using h2
          case measure => simp [intOf]
        · go_wp2
          go_roundw
          case rel =>
            refine ⟨18, by omega, rfl, HS.out.far _ _ (by simp; omega), ?_⟩
            have h2 := HB.out.set 17 (.int .u8 (dg ⟨r0, r1, r2, r3, r4, r5, r6, r7⟩ 17))
            rw [dCells_set, show dg ⟨r0, r1, r2, r3, r4, r5, r6, r7⟩ 17 = r4 / 65536 % 256 from rfl] at h2
            simpa using h2
          case measure => simp [intOf]
        · go_wp2
          go_roundw
          case rel =>
            refine ⟨19, by omega, rfl, HS.out.far _ _ (by simp; omega), ?_⟩
            have h2 := HB.out.set 18 (.int .u8 (dg ⟨r0, r1, r2, r3, r4, r5, r6, r7⟩ 18))
            rw [dCells_set, show dg ⟨r0, r1, r2, r3, r4, r5, r6, r7⟩ 18 = r4 / 256 % 256 from rfl] at h2
            simpa using h2
          case measure => simp [intOf]
        · go_wp2
          go_roundw
          case rel =>
            refine ⟨20, by omega, rfl, HS.out.far _ _ (by simp; omega), ?_⟩
            have h2 := HB.out.set 19 (.int .u8 (dg ⟨r0, r1, r2, r3, r4, r5, r6, r7⟩ 19))
            rw [dCells_set, show dg ⟨r0, r1, r2, r3, r4, r5, r6, r7⟩ 19 = r4 / 1 % 256 from rfl] at h2
            simpa using h2
          case measure => simp [intOf]
        · go_wp2
          go_roundw
          case rel =>
            refine ⟨21, by omega, rfl, HS.out.far _ _ (by simp; omega), ?_⟩
            have h2 := HB.out.set 20 (.int .u8 (dg ⟨r0, r1, r2, r3, r4, r5, r6, r7⟩ 20))
            rw [dCells_set, show dg ⟨r0, r1, r2, r3, r4, r5, r6, r7⟩ 20 = r5 / 16777216 % 256 from rfl] at h2
            simpa using h2
          case measure => simp [intOf]
        · go_wp2
          go_roundw
          case rel =>
            refine ⟨22, by omega, rfl, HS.out.far _ _ (by simp; omega), ?_⟩
            have h2 := HB.out.set 21 (.int .u8 (dg ⟨r0, r1, r2, r3, r4, r5, r6, r7⟩ 21))
            rw [dCells_set, show dg ⟨r0, r1, r2, r3, r4, r5, r6, r7⟩ 21 = r5 / 65536 % 256 from rfl] at h2
            simpa using h2
          case measure => simp [intOf]
        · go_wp2
          go_roundw
          case rel =>
            refine ⟨23, by omega, rfl, HS.out.far _ _ (by simp; omega), ?_⟩
            have h2 := HB.out.set 22 (.int .u8 (dg ⟨r0, r1, r2, r3, r4, r5, r6, r7⟩ 22))
            rw [dCells_set, show dg ⟨r0, r1, r2, r3, r4, r5, r6, r7⟩ 22 = r5 / 256 % 256 from rfl] at h2
            simpa using h2
          case measure => simp [intOf]
        · go_wp2
          go_roundw
          case rel =>
            refine ⟨24, by omega, rfl, HS.out.far _ _ (by simp; omega), ?_⟩
            have h2 := HB.out.set 23 (.int .u8 (dg ⟨r0, r1, r2, r3, r4, r5, r6, r7⟩ 23))
            rw [dCells_set, show dg ⟨r0, r1, r2, r3, r4, r5, r6, r7⟩ 23 = r5 / 1 % 256 from rfl] at h2
            simpa using h2
          case measure => simp [intOf]
        · go_wp2
          go_roundw
          case rel =>
            refine ⟨25, by omega, rfl, HS.out.far _ _ (by simp; omega), ?_⟩
            have h2 := HB.out.set 24 (.int .u8 (dg ⟨r0, r1, r2, r3, r4, r5, r6, r7⟩ 24))
            rw [dCells_set, show dg ⟨r0, r1, r2, r3, r4, r5, r6, r7⟩ 24 = r6 / 16777216 % 256 from rfl] at h2
            simpa using h2
          case measure => simp [intOf]
        · go_wp2
          go_roundw
          case rel =>
            refine ⟨26, by omega, rfl, HS.out.far _ _ (by simp; omega), ?_⟩
            have h2 := HB.out.set 25 (.int .u8 (dg ⟨r0, r1, r2, r3, r4, r5, r6, r7⟩ 25))
            rw [dCells_set, show dg ⟨r0, r1, r2, r3, r4, r5, r6, r7⟩ 25 = r6 / 65536 % 256 from rfl] at h2
            simpa using h2
          case measure => simp [intOf]
        · go_wp2
          go_roundw
          case rel =>
            refine ⟨27, by omega, rfl, HS.out.far _ _ (by simp; omega), ?_⟩
            have h2 := HB.out.set 26 (.int .u8 (dg ⟨r0, r1, r2, r3, r4, r5, r6, r7⟩ 26))
            rw [dCells_set, show dg ⟨r0, r1, r2, r3, r4, r5, r6, r7⟩ 26 = r6 / 256 % 256 from rfl] at h2
            simpa using h2
          case measure => simp [intOf]
        · go_wp2
          go_roundw
          case rel =>
            refine ⟨28, by omega, rfl, HS.out.far _ _ (by simp; omega), ?_⟩
            have h2 := HB.out.set 27 (.int .u8 (dg ⟨r0, r1, r2, r3, r4, r5, r6, r7⟩ 27))
            rw [dCells_set, show dg ⟨r0, r1, r2, r3, r4, r5, r6, r7⟩ 27 = r6 / 1 % 256 from rfl] at h2
            simpa using h2
          case measure => simp [intOf]
        · go_wp2
          go_roundw
          case rel =>
            refine ⟨29, by omega, rfl, HS.out.far _ _ (by simp; omega), ?_⟩
            have h2 := HB.out.set 28 (.int .u8 (dg ⟨r0, r1, r2, r3, r4, r5, r6, r7⟩ 28))
            rw [dCells_set, show dg ⟨r0, r1, r2, r3, r4, r5, r6, r7⟩ 28 = r7 / 16777216 % 256 from rfl] at h2
            simpa using h2
          case measure => simp [intOf]
        · go_wp2
          go_roundw
          case rel =>
            refine ⟨30, by omega, rfl, HS.out.far _ _ (by simp; omega), ?_⟩
            have h2 := HB.out.set 29 (.int .u8 (dg ⟨r0, r1, r2, r3, r4, r5, r6, r7⟩ 29))
            rw [dCells_set, show dg ⟨r0, r1, r2, r3, r4, r5, r6, r7⟩ 29 = r7 / 65536 % 256 from rfl] at h2
            simpa using h2
          case measure => simp [intOf]
        · go_wp2
          go_roundw
          case rel =>
            refine ⟨31, by omega, rfl, HS.out.far _ _ (by simp; omega), ?_⟩
            have h2 := HB.out.set 30 (.int .u8 (dg ⟨r0, r1, r2, r3, r4, r5, r6, r7⟩ 30))
            rw [dCells_set, show dg ⟨r0, r1, r2, r3, r4, r5, r6, r7⟩ 30 = r7 / 256 % 256 from rfl] at h2
            simpa using h2
          case measure => simp [intOf]
        · go_wp2
          go_roundw
          case rel =>
            refine ⟨32, by omega, rfl, HS.out.far _ _ (by simp; omega), ?_⟩
            have h2 := HB.out.set 31 (.int .u8 (dg ⟨r0, r1, r2, r3, r4, r5, r6, r7⟩ 31))
            rw [dCells_set, show dg ⟨r0, r1, r2, r3, r4, r5, r6, r7⟩ 31 = r7 / 1 % 256 from rfl] at h2
            simpa using h2
          case measure => simp [intOf]
      · obtain rfl : i = 32 := by omega
        clear hS hB
        go_wp2_with (first
          | (refine wpList_load_blk rfl _ _ rfl D rfl 22 (dCells ⟨r0, r1, r2, r3, r4, r5, r6, r7⟩ 32) HB.out _ Tryz.underlying22 rfl (by rw [info_32, dCells_length]) ?_)
          | (refine wpList_store_blk rfl _ _ _ rfl (w.heap.size + 1) (dCells ⟨r0, r1, r2, r3, r4, r5, r6, r7⟩ 32) rfl rfl 22 _ HS.out.bR (by rw [info_32, dCells_length]) (by rw [dCells_length]; rfl) (dCells_one _ _) ?_; intro w6 hz6 hB6 hg6))
        exact bodyPost_ret (results_blk rfl _ _ (w.heap.size + 1) 22 (dCells ⟨r0, r1, r2, r3, r4, r5, r6, r7⟩ 32) _ rfl hB6 Tryz.underlying22 rfl (by rw [info_32, dCells_length])) rfl ⟨by rw [HRR.out], HS.out.chg.fresh hg6 (by simp)⟩
end Go.Proofs.YtfdhgakalojahaaGreatDoor

namespace Go.Proofs.YtfdhgakalojahaaGreatDoor
open Go Go.RowKit

set_option maxRecDepth 100000 in
set_option maxHeartbeats 4000000 in
theorem r2_OfNone (w : World) :
    Calls Tryz.prog 89 #[.slice none 0 0] w fun e w' => e = .returned (.agg (dCells (Sha.round (rootV true) firstS) 32).toArray) ∧ Chg w w' [] := by
  obtain ⟨s, hs⟩ : ∃ s, s = firstS := ⟨_, rfl⟩
  have HN : Hid (∀ w, Calls Tryz.prog 112 #[] w fun e w' => e = .returned (.agg (HC s 0 (.slice none 0 0)).toArray) ∧ Chg w w' []) := by intro w; rw [hs]; exact r2_New w
  rw [← hs]
  clear hs
  have HB0 := Lib.hid (Blk.new w (List.replicate 32 (.int .u8 0)) 22)
  obtain ⟨w0, hw0⟩ : ∃ x, x = w.alloc (.cells (List.replicate 32 (.int .u8 0)).toArray 22) := ⟨_, rfl⟩
  have HG0 : Hid (Chg w w0 []) := by rw [hw0]; exact Lib.hid ((Chg.refl w []).alloc _)
  rw [← hw0] at HB0
  have HW := Lib.hid hw0
  clear hw0
  go_enter Tryz.func89, Tryz.ntmps89
  go_wp2_with fail
  change Calls _ _ _ (w.alloc (.cells (List.replicate 32 (.int .u8 0)).toArray 22)) _
  rw [← HW.out]
  refine (HN.out w0).mono ?_
  rintro e w1 ⟨rfl, hg1⟩
  have HB1 := Lib.hid (HB0.out.kept hg1 (by simp))
  have HG1 := Lib.hid (HG0.out.trans hg1)
  clear hg1
  go_wp2_with fail
  refine (r2_Write0 s none none 0 0 w1).mono ?_
  rintro e w2 ⟨a', c', rfl, hg2⟩
  have HB2 := Lib.hid (HB1.out.kept hg2 (by simp))
  have HG2 := Lib.hid (HG1.out.trans hg2)
  clear hg2
  go_wp2_with fail
  refine (r2_Sum s a' c' w2).mono ?_
  rintro e w3 ⟨rfl, hg3⟩
  have HB3 := Lib.hid (HB2.out.kept hg3 (by simp))
  have HG3 := Lib.hid (HG2.out.trans hg3)
  clear hg3
  go_wp2_with (first
    | (refine wpList_store_blk rfl _ _ _ rfl w.heap.size (dCells (Sha.round (rootV true) s) 32) rfl rfl 22 _ HB3.out (by rw [info_32, dCells_length]) (by rw [dCells_length]; rfl) (dCells_one _ _) ?_; intro w6 hz6 hB6 hg6))
  exact bodyPost_ret (results_blk rfl _ _ w.heap.size 22 (dCells (Sha.round (rootV true) s) 32) _ rfl hB6 Tryz.underlying22 rfl (by rw [info_32, dCells_length])) rfl ⟨rfl, HG3.out.fresh hg6 (by simp)⟩

set_option maxRecDepth 100000 in
set_option maxHeartbeats 4000000 in
theorem r27_Empty' (w : World) :
    Calls Tryz.prog 48 #[] w fun e w' => e = .returned (.agg (dCells (Sha.round (rootV true) firstS) 32).toArray) ∧ Chg w w' [] := by
  obtain ⟨cs, hcs⟩ : ∃ cs, cs = dCells (Sha.round (rootV true) firstS) 32 := ⟨_, rfl⟩
  have HN : Hid (∀ w, Calls Tryz.prog 89 #[.slice none 0 0] w fun e w' => e = .returned (.agg cs.toArray) ∧ Chg w w' []) := by intro w; rw [hcs]; exact r2_OfNone w
  have hl : cs.length = 32 := by rw [hcs, dCells_length]
  have h1 : ∀ v ∈ cs, v.oneCell' = true := by rw [hcs]; exact dCells_one _ _
  rw [← hcs]
  have HL := Lib.hid hl
  have H1 := Lib.hid h1
  clear hcs hl h1
  have HB0 := Lib.hid (Blk.new w (List.replicate 32 (.int .u8 0)) 22)
  obtain ⟨w0, hw0⟩ : ∃ x, x = w.alloc (.cells (List.replicate 32 (.int .u8 0)).toArray 22) := ⟨_, rfl⟩
  have HG0 : Hid (Chg w w0 []) := by rw [hw0]; exact Lib.hid ((Chg.refl w []).alloc _)
  rw [← hw0] at HB0
  have HW := Lib.hid hw0
  clear hw0
  go_enter Tryz.func48, Tryz.ntmps48
  go_wp2_with fail
  change Calls _ _ _ (w.alloc (.cells (List.replicate 32 (.int .u8 0)).toArray 22)) _
  rw [← HW.out]
  refine (HN.out w0).mono ?_
  rintro e w1 ⟨rfl, hg1⟩
  have HB1 := Lib.hid (HB0.out.kept hg1 (by simp))
  have HG1 := Lib.hid (HG0.out.trans hg1)
  clear hg1
  go_wp2_with (first
    | (refine wpList_store_blk rfl _ _ _ rfl w.heap.size cs rfl rfl 22 _ HB1.out (by rw [info_32, HL.out]) (by rw [HL.out]; rfl) H1.out ?_; intro w6 hz6 hB6 hg6))
  exact bodyPost_ret (results_blk rfl _ _ w.heap.size 22 cs _ rfl hB6 Tryz.underlying22 rfl (by rw [info_32, HL.out])) rfl ⟨rfl, HG1.out.fresh hg6 (by simp)⟩

/-- the digest of nothing -/
def noD : List UInt8 := (List.range 32).map fun j => UInt8.ofNat (dg (Sha.round (rootV true) firstS) j).toNat

theorem noD_length : noD.length = 32 := by simp [noD]

theorem byV_of {x : Int} (h : 0 ≤ x ∧ x < 256) : byV (UInt8.ofNat x.toNat) = .int .u8 x := by
  unfold byV Extern.Stop.cell
  rw [UInt8.toNat_ofNat']
  congr 1
  show ((x.toNat % 2 ^ 8 : Nat) : Int) = x
  omega

theorem noD_cells : noD.map byV = dCells (Sha.round (rootV true) firstS) 32 := by
  apply List.ext_getElem?
  intro i
  by_cases hi : i < 32
  · rw [dCells_get hi, if_pos hi]
    unfold noD
    rw [List.map_map, List.getElem?_map, List.getElem?_range hi]
    have h : 0 ≤ dg (Sha.round (rootV true) firstS) i ∧ dg (Sha.round (rootV true) firstS) i < 256 := by unfold dg; omega
    exact congrArg some (byV_of h)
  · rw [List.getElem?_eq_none (by rw [List.length_map, noD_length]; omega), List.getElem?_eq_none (by rw [dCells_length]; omega)]

/-- the digest's tables as the program's text lays them -/
def Laid (w : World) : Prop := LaidS (rootV true) firstS w

theorem Laid.kept (w w' : World) (h : Laid w) (hg : Chg w w' []) : Laid w' := LaidS.kept h hg

theorem book_Empty (w : World) (h : Laid w) : Calls Tryz.prog 33 #[] w fun e w' => e = .returned (.agg (noD.map byV).toArray) ∧ Chg w w' [] := by
  rw [noD_cells]; exact book_Empty' _ _ w h

theorem r27_Empty (w : World) : Calls Tryz.prog 48 #[] w fun e w' => e = .returned (.agg (noD.map byV).toArray) ∧ Chg w w' [] := by
  rw [noD_cells]; exact r27_Empty' w

theorem witness_may (o : ByteArray) (n t : Int) (rb : List UInt8) (hr : rb.length = 32) (w : World) (hs : o.size ≤ 2147483648) (hl : Laid w) :
    Calls Tryz.prog 16 #[.agg (hdL o n rb t).toArray] w fun e w' => e = .returned (.bool (mayB (originB o) n t (rb == noD))) ∧ Chg w w' [] :=
  wit_may noD Laid Laid.kept book_Empty noD_length o n t rb hr w hs hl

theorem ref_HeadMay (o : ByteArray) (n t : Int) (rb : List UInt8) (hr : rb.length = 32) (w : World) (hs : o.size ≤ 2147483648) :
    Calls Tryz.prog 7 #[.agg (hdL o n rb t).toArray] w fun e w' => e = .returned (.bool (mayB (originB o) n t (rb == noD))) ∧ Chg w w' [] :=
  r30_HeadMay noD r27_Empty noD_length o n t rb hr w hs

theorem map_getD (f : Nat → Nat) (L : List Nat) (j : Nat) (h : j < L.length) : f (L.getD j 0) = (L.map f).getD j 0 := by
  rw [List.getD_eq_getElem?_getD, List.getD_eq_getElem?_getD, List.getElem?_map, List.getElem?_eq_getElem h]; rfl

theorem take_getD (L : List Nat) (j n : Nat) (h : j < n) : (L.take n).getD j 0 = L.getD j 0 := by
  rw [List.getD_eq_getElem?_getD, List.getD_eq_getElem?_getD, List.getElem?_take, if_pos h]

theorem rootV_K (j : Nat) (hj : j < 64) : rootV true j = ((KL.getD j 0 : Nat) : Int) := by
  unfold rootV
  rw [← eval_K]
  exact congrArg Int.ofNat (map_getD (fun p => rootN true p 40 % 4294967296) PL j (by rw [PL_length]; exact hj))

theorem mk_fn (g : Nat → Int) (j : Nat) (hj : j < 8) : (⟨g 0, g 1, g 2, g 3, g 4, g 5, g 6, g 7⟩ : Sha.St).fn j = g j := by
  have : j = 0 ∨ j = 1 ∨ j = 2 ∨ j = 3 ∨ j = 4 ∨ j = 5 ∨ j = 6 ∨ j = 7 := by omega
  rcases this with rfl | rfl | rfl | rfl | rfl | rfl | rfl | rfl <;> rfl

theorem rootV_F' (j : Nat) (hj : j < 8) : rootV false j = ((FL.getD j 0 : Nat) : Int) := by
  unfold rootV
  rw [← eval_F, ← take_getD PL j 8 hj]
  exact congrArg Int.ofNat (map_getD (fun p => rootN false p 40 % 4294967296) (PL.take 8) j (by rw [List.length_take, PL_length]; omega))

theorem rootV_F (j : Nat) (hj : j < 8) : firstS.fn j = ((FL.getD j 0 : Nat) : Int) := (mk_fn (rootV false) j hj).trans (rootV_F' j hj)
end Go.Proofs.YtfdhgakalojahaaGreatDoor

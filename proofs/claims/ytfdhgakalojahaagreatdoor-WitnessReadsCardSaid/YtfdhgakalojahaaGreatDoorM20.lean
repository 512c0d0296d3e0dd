/- WALKS: the reference's layer 2: the digest of nothing. WALKS: the program's layer 3. -/
import Derived.Deep.RegionWith
import Derived.Test.YtfdhgakalojahaaGreatDoorM19
import Derived.Test.YtfdhgakalojahaaGreatDoorRows
import Derived.WalkKit
import Derived.WalkSpells
import Derived.WalkLawsBesides
import Derived.Deep.Light
import Derived.Deep.QuietTactic
import Derived.BigQuiet
import Derived.Test.YtfdhgakalojahaaGreatDoorM01
import Derived.Test.YtfdhgakalojahaaGreatDoorM03
set_option linter.unusedSimpArgs false
set_option linter.unusedVariables false
set_option linter.unnecessarySimpa false
set_option linter.unusedSectionVars false
namespace Go.Proofs.YtfdhgakalojahaaGreatDoor
open Go Go.RowKit

theorem info_32 : (Tryz.prog.info? 22).map (·.size) = some 32 := by kernel_rfl

def SumPost (s : Sha.St) (w : World) (e : Ending) (w' : World) : Prop := e = .returned (.agg (dCells (Sha.round (rootV true) s) 32).toArray) ∧ Chg w w' []

theorem HC_arr (a0 a1 a2 a3 a4 a5 a6 a7 n : Int) (v : Value) : (HC ⟨a0, a1, a2, a3, a4, a5, a6, a7⟩ n v).toArray = #[.int .u32 a0, .int .u32 a1, .int .u32 a2, .int .u32 a3, .int .u32 a4, .int .u32 a5, .int .u32 a6, .int .u32 a7, .int .u64 n, v] := rfl

/-- what stands in memory while a digest is told -/
structure SS (w wr : World) (cs : List Value) : Prop where
  chg : Chg w wr []
  bH : Blk wr w.heap.size cs 215
  bR : Blk wr (w.heap.size + 1) (List.replicate 32 (.int .u8 0)) 22

theorem SS.kept {w wr wr' : World} {cs : List Value} (h : SS w wr cs) (hg : Chg wr wr' []) : SS w wr' cs := ⟨h.chg.trans hg, h.bH.kept hg (by simp), h.bR.kept hg (by simp)⟩
theorem SS.drew {w wr : World} {cs : List Value} (h : SS w wr cs) : SS w wr.drew cs := ⟨h.chg.drew, h.bH.drew, h.bR.drew⟩
theorem SS.far {w wr : World} {cs : List Value} (h : SS w wr cs) (p : Addr) (v : Value) (hp : w.heap.size + 2 ≤ p.block) : SS w (wr.setCell p v) cs :=
  ⟨h.chg.setCell _ _ (by omega), h.bH.set_other _ _ (by omega), h.bR.set_other _ _ (by omega)⟩

theorem SS.cells {w wr : World} {a0 a1 a2 a3 a4 a5 a6 a7 n : Int} {v : Value} (h : SS w wr (HC ⟨a0, a1, a2, a3, a4, a5, a6, a7⟩ n v)) :
    wr.cell? ⟨w.heap.size, 0, none⟩ = some (.int .u32 a0) ∧ wr.cell? ⟨w.heap.size, 1, none⟩ = some (.int .u32 a1) ∧ wr.cell? ⟨w.heap.size, 2, none⟩ = some (.int .u32 a2) ∧ wr.cell? ⟨w.heap.size, 3, none⟩ = some (.int .u32 a3) ∧
    wr.cell? ⟨w.heap.size, 4, none⟩ = some (.int .u32 a4) ∧ wr.cell? ⟨w.heap.size, 5, none⟩ = some (.int .u32 a5) ∧ wr.cell? ⟨w.heap.size, 6, none⟩ = some (.int .u32 a6) ∧ wr.cell? ⟨w.heap.size, 7, none⟩ = some (.int .u32 a7) ∧
    wr.cell? ⟨w.heap.size, 8, none⟩ = some (.int .u64 n) ∧ wr.cell? ⟨w.heap.size, 9, none⟩ = some v :=
  ⟨by rw [h.bH.cell]; rfl, by rw [h.bH.cell]; rfl, by rw [h.bH.cell]; rfl, by rw [h.bH.cell]; rfl, by rw [h.bH.cell]; rfl, by rw [h.bH.cell]; rfl, by rw [h.bH.cell]; rfl, by rw [h.bH.cell]; rfl, by rw [h.bH.cell]; rfl, by rw [h.bH.cell]; rfl⟩

theorem SS.words {w wr : World} {a0 a1 a2 a3 a4 a5 a6 a7 n : Int} {v : Value} (h : SS w wr (HC ⟨a0, a1, a2, a3, a4, a5, a6, a7⟩ n v)) (r0 r1 r2 r3 r4 r5 r6 r7 n' : Int) (v' : Value) :
    SS w ((((((((((wr.setCell ⟨w.heap.size, 0, none⟩ (.int .u32 r0)).setCell ⟨w.heap.size, 1, none⟩ (.int .u32 r1)).setCell ⟨w.heap.size, 2, none⟩ (.int .u32 r2)).setCell ⟨w.heap.size, 3, none⟩ (.int .u32 r3)).setCell ⟨w.heap.size, 4, none⟩ (.int .u32 r4)).setCell ⟨w.heap.size, 5, none⟩ (.int .u32 r5)).setCell ⟨w.heap.size, 6, none⟩ (.int .u32 r6)).setCell ⟨w.heap.size, 7, none⟩ (.int .u32 r7)).setCell ⟨w.heap.size, 8, none⟩ (.int .u64 n')).setCell ⟨w.heap.size, 9, none⟩ v') (HC ⟨r0, r1, r2, r3, r4, r5, r6, r7⟩ n' v') :=
  ⟨((((((((((h.chg.setCell _ _ (by simp)).setCell _ _ (by simp)).setCell _ _ (by simp)).setCell _ _ (by simp)).setCell _ _ (by simp)).setCell _ _ (by simp)).setCell _ _ (by simp)).setCell _ _ (by simp)).setCell _ _ (by simp)).setCell _ _ (by simp)), ((((((((((h.bH.set 0 _).set 1 _).set 2 _).set 3 _).set 4 _).set 5 _).set 6 _).set 7 _).set 8 _).set 9 _), ((((((((((h.bR.set_other _ _ (by simp)).set_other _ _ (by simp)).set_other _ _ (by simp)).set_other _ _ (by simp)).set_other _ _ (by simp)).set_other _ _ (by simp)).set_other _ _ (by simp)).set_other _ _ (by simp)).set_other _ _ (by simp)).set_other _ _ (by simp))⟩

set_option maxRecDepth 100000 in
set_option maxHeartbeats 16000000 in
theorem r2_Sum (s : Sha.St) (a : Option Addr) (c : Nat) (w : World) :
    Calls Tryz.prog 114 #[.agg (HC s 0 (.slice a 0 c)).toArray] w (SumPost s w) := by
  have hcb : (Value.agg (HC s 0 (.slice a 0 c)).toArray).cells = (HC s 0 (.slice a 0 c)).toArray := rfl
  obtain ⟨w0, hw0⟩ : ∃ x, x = (w.alloc (.cells (HC s 0 (.slice a 0 c)).toArray 215)).alloc (.cells (List.replicate 32 (.int .u8 0)).toArray 22) := ⟨_, rfl⟩
  have HS0 : Hid (SS w w0 (HC s 0 (.slice a 0 c))) := by
    rw [hw0]
    have h := Blk.new (w.alloc (.cells (HC s 0 (.slice a 0 c)).toArray 215)) (List.replicate 32 (.int .u8 0)) 22
    rw [World.size_alloc] at h
    exact Lib.hid ⟨((Chg.refl w []).alloc _).alloc _, (Blk.new w _ _).alloc _, h⟩
  have HW := Lib.hid hw0
  clear hw0
  obtain ⟨r, hr⟩ : ∃ r, r = Sha.round (rootV true) s := ⟨_, rfl⟩
  have HRR := Lib.hid hr
  have HWR : Hid (∀ (g cap : Nat) w, (∀ i, i < 64 → w.cell? ⟨g, i, none⟩ = some (.int .u8 (Sha.bv i))) → Calls Tryz.prog 113 #[.agg (HC s 0 (.slice a 0 c)).toArray, .slice (some ⟨g, 0, none⟩) 64 cap] w fun e w' => e = .returned (.agg (HC r 1 (.slice none 0 0)).toArray) ∧ Chg w w' []) := by
    intro g cap w h; rw [hr]; exact r2_Write s a c g cap w h
  have HLN : Hid (∀ w, Calls Tryz.prog 136 #[.agg (HC s 0 (.slice a 0 c)).toArray] w fun e w' => e = .returned (.int .u64 0) ∧ Chg w w' []) := fun w => r2_Len s a c w
  clear hr
  go_enter Tryz.func114, Tryz.ntmps114
  go_wp2_with fail
  change Code.wp _ _ _ _ ((w.alloc (.cells (HC s 0 (.slice a 0 c)).toArray 215)).alloc (.cells (List.replicate 32 (.int .u8 0)).toArray 22))
  rw [← HW.out]
  obtain ⟨a0, a1, a2, a3, a4, a5, a6, a7⟩ := s
  obtain ⟨r0, r1, r2, r3, r4, r5, r6, r7⟩ := r
  rw [HC_arr] at hcb HWR HLN ⊢
  rw [HC_arr] at HWR
  obtain ⟨q0, q1, q2, q3, q4, q5, q6, q7, q8, q9⟩ := HS0.out.cells
  go_region_with (first
    | (go_at_call 136; refine (HLN.out _).mono ?_; rintro e w1 ⟨rfl, hg1⟩; have HS1 := Lib.hid (HS0.out.drew.kept hg1); clear q0 q1 q2 q3 q4 q5 q6 q7 q8 q9; obtain ⟨q0, q1, q2, q3, q4, q5, q6, q7, q8, q9⟩ := HS1.out.cells; clear hg1)
    | (go_at_call 135; refine (r2_Pad _).mono ?_; rintro e w2 ⟨g2, cap2, rfl, hL2, hg2⟩; have HL2 := Lib.hid hL2; have HS2 := Lib.hid (HS1.out.kept hg2); clear q0 q1 q2 q3 q4 q5 q6 q7 q8 q9; obtain ⟨q0, q1, q2, q3, q4, q5, q6, q7, q8, q9⟩ := HS2.out.cells; clear hg2 hL2)
    | (go_at_call 113; refine (HWR.out g2 cap2 _ (fun i hi => HL2.out.cell rfl i _ (Sha.bCells_get hi))).mono ?_; rintro e w3 ⟨rfl, hg3⟩; have HS3 := Lib.hid (HS2.out.kept hg3); clear q0 q1 q2 q3 q4 q5 q6 q7 q8 q9; obtain ⟨q0, q1, q2, q3, q4, q5, q6, q7, q8, q9⟩ := HS3.out.cells; have qf : ∀ j, w3.frozen? ⟨w.heap.size, j, none⟩ = false := (fun j => HS3.out.bH.frozen j); have ql := HS3.out.bH.lt; clear hg3))
  all_goals
    obtain ⟨w4, hw4⟩ : ∃ x, x = (((((((((w3.setCell ⟨w.heap.size, 0, none⟩ (.int .u32 r0)).setCell ⟨w.heap.size, 1, none⟩ (.int .u32 r1)).setCell ⟨w.heap.size, 2, none⟩ (.int .u32 r2)).setCell ⟨w.heap.size, 3, none⟩ (.int .u32 r3)).setCell ⟨w.heap.size, 4, none⟩ (.int .u32 r4)).setCell ⟨w.heap.size, 5, none⟩ (.int .u32 r5)).setCell ⟨w.heap.size, 6, none⟩ (.int .u32 r6)).setCell ⟨w.heap.size, 7, none⟩ (.int .u32 r7)).setCell ⟨w.heap.size, 8, none⟩ (.int .u64 1)).setCell ⟨w.heap.size, 9, none⟩ (.slice none 0 0) := ⟨_, rfl⟩
    have HS4 : Hid (SS w w4 (HC ⟨r0, r1, r2, r3, r4, r5, r6, r7⟩ 1 (.slice none 0 0))) := by rw [hw4]; exact Lib.hid (HS3.out.words r0 r1 r2 r3 r4 r5 r6 r7 1 (.slice none 0 0))
    rw [← hw4]
    clear hw4 HS3 HS2 HS1 HL2 q0 q1 q2 q3 q4 q5 q6 q7 q8 q9 qf ql w3 w2 w1 HS0
    go_wp2_with fail
    obtain ⟨D, hD⟩ : ∃ D, D = w4.heap.size := ⟨_, rfl⟩
    have hXD : w.heap.size + 1 < D := by rw [hD]; exact HS4.out.bR.lt
    obtain ⟨w5, hw5⟩ : ∃ x, x = w4.alloc (.cells (List.replicate 32 (.int .u8 0)).toArray 22) := ⟨_, rfl⟩
    have HS5 : Hid (SS w w5 (HC ⟨r0, r1, r2, r3, r4, r5, r6, r7⟩ 1 (.slice none 0 0))) := by rw [hw5]; exact Lib.hid ⟨HS4.out.chg.alloc _, HS4.out.bH.alloc _, HS4.out.bR.alloc _⟩
    have HB5 : Hid (Blk w5 D (dCells ⟨r0, r1, r2, r3, r4, r5, r6, r7⟩ 0) 22) := by rw [hw5, hD, dCells_zero]; exact Lib.hid (Blk.new _ _ _)
    change Code.wp _ _ _ _ (w4.alloc (.cells (List.replicate 32 (.int .u8 0)).toArray 22))
    rw [← hw5, ← hD]
    clear hw5 hD HS4 w4
    go_loopw [4] (fun v wr => ∃ i : Nat, i ≤ 32 ∧ v = .int .i64 i ∧ SS w wr (HC ⟨r0, r1, r2, r3, r4, r5, r6, r7⟩ 1 (.slice none 0 0)) ∧ Blk wr D (dCells ⟨r0, r1, r2, r3, r4, r5, r6, r7⟩ i) 22) (fun v _ => 32 - (intOf v).toNat)
    case atStart => exact ⟨0, by omega, rfl, HS5.out, HB5.out⟩
    case round =>
      clear HS5 HB5
      obtain ⟨wb, rfl⟩ : ∃ x, x = wr := ⟨_, rfl⟩
      obtain ⟨i, hi, rfl, hS, hB⟩ := hrel
      have HS := Lib.hid hS
      have HB := Lib.hid hB
      by_cases hlt : i < 32
      · obtain ⟨q0, q1, q2, q3, q4, q5, q6, q7, q8, q9⟩ := hS.cells
        have cd : wb.cell? ⟨D, i, none⟩ = some (.int .u8 0) := by rw [hB.cell, dCells_get hlt, if_neg (by omega)]
        have fd : ∀ j, wb.frozen? ⟨D, j, none⟩ = false := fun j => hB.frozen j
        have ld := hB.lt
        clear hS hB
        have hc : i = 0 ∨ i = 1 ∨ i = 2 ∨ i = 3 ∨ i = 4 ∨ i = 5 ∨ i = 6 ∨ i = 7 ∨ i = 8 ∨ i = 9 ∨ i = 10 ∨ i = 11 ∨ i = 12 ∨ i = 13 ∨ i = 14 ∨ i = 15 ∨ i = 16 ∨ i = 17 ∨ i = 18 ∨ i = 19 ∨ i = 20 ∨ i = 21 ∨ i = 22 ∨ i = 23 ∨ i = 24 ∨ i = 25 ∨ i = 26 ∨ i = 27 ∨ i = 28 ∨ i = 29 ∨ i = 30 ∨ i = 31 := by omega
        clear hlt hi
        rcases hc with rfl | rfl | rfl | rfl | rfl | rfl | rfl | rfl | rfl | rfl | rfl | rfl | rfl | rfl | rfl | rfl | rfl | rfl | rfl | rfl | rfl | rfl | rfl | rfl | rfl | rfl | rfl | rfl | rfl | rfl | rfl | rfl
        · go_wp2
          go_roundw
          case rel =>
            refine ⟨1, by omega, rfl, HS.out.far _ _ (by simp; omega), ?_⟩
            have h2 := HB.out.set 0 (.int .u8 (dg ⟨r0, r1, r2, r3, r4, r5, r6, r7⟩ 0))
            rw [dCells_set, show dg ⟨r0, r1, r2, r3, r4, r5, r6, r7⟩ 0 = r0 / 16777216 % 256 from rfl] at h2
            simpa using h2
          case measure => simp [intOf]
        · go_wp2
          go_roundw
          case rel =>
            refine ⟨2, by omega, rfl, HS.out.far _ _ (by simp; omega), ?_⟩
            have h2 := HB.out.set 1 (.int .u8 (dg ⟨r0, r1, r2, r3, r4, r5, r6, r7⟩ 1))
            rw [dCells_set, show dg ⟨r0, r1, r2, r3, r4, r5, r6, r7⟩ 1 = r0 / 65536 % 256 from rfl] at h2
            simpa using h2
          case measure => simp [intOf]
        · go_wp2
          go_roundw
          case rel =>
            refine ⟨3, by omega, rfl, HS.out.far _ _ (by simp; omega), ?_⟩
            have h2 := HB.out.set 2 (.int .u8 (dg ⟨r0, r1, r2, r3, r4, r5, r6, r7⟩ 2))
            rw [dCells_set, show dg ⟨r0, r1, r2, r3, r4, r5, r6, r7⟩ 2 = r0 / 256 % 256 from rfl] at h2
            simpa using h2
          case measure => simp [intOf]
        · go_wp2
          go_roundw
          case rel =>
            refine ⟨4, by omega, rfl, HS.out.far _ _ (by simp; omega), ?_⟩
            have h2 := HB.out.set 3 (.int .u8 (dg ⟨r0, r1, r2, r3, r4, r5, r6, r7⟩ 3))
            rw [dCells_set, show dg ⟨r0, r1, r2, r3, r4, r5, r6, r7⟩ 3 = r0 / 1 % 256 from rfl] at h2
            simpa using h2
          case measure => simp [intOf]
        · go_wp2
          go_roundw
          case rel =>
            refine ⟨5, by omega, rfl, HS.out.far _ _ (by simp; omega), ?_⟩
            have h2 := HB.out.set 4 (.int .u8 (dg ⟨r0, r1, r2, r3, r4, r5, r6, r7⟩ 4))
            rw [dCells_set, show dg ⟨r0, r1, r2, r3, r4, r5, r6, r7⟩ 4 = r1 / 16777216 % 256 from rfl] at h2
            simpa using h2
          case measure => simp [intOf]
        · go_wp2
          go_roundw
          case rel =>
            refine ⟨6, by omega, rfl, HS.out.far _ _ (by simp; omega), ?_⟩
            have h2 := HB.out.set 5 (.int .u8 (dg ⟨r0, r1, r2, r3, r4, r5, r6, r7⟩ 5))
            rw [dCells_set, show dg ⟨r0, r1, r2, r3, r4, r5, r6, r7⟩ 5 = r1 / 65536 % 256 from rfl] at h2
            simpa using h2
          case measure => simp [intOf]
        · go_wp2
          go_roundw
          case rel =>
            refine ⟨7, by omega, rfl, HS.out.far _ _ (by simp; omega), ?_⟩
            have h2 := HB.out.set 6 (.int .u8 (dg ⟨r0, r1, r2, r3, r4, r5, r6, r7⟩ 6))
            rw [dCells_set, show dg ⟨r0, r1, r2, r3, r4, r5, r6, r7⟩ 6 = r1 / 256 % 256 from rfl] at h2
            simpa using h2
          case measure => simp [intOf]
        · go_wp2
          go_roundw
          case rel =>
            refine ⟨8, by omega, rfl, HS.out.far _ _ (by simp; omega), ?_⟩
            have h2 := HB.out.set 7 (.int .u8 (dg ⟨r0, r1, r2, r3, r4, r5, r6, r7⟩ 7))
            rw [dCells_set, show dg ⟨r0, r1, r2, r3, r4, r5, r6, r7⟩ 7 = r1 / 1 % 256 from rfl] at h2
            simpa using h2
          case measure => simp [intOf]
        · go_wp2
          go_roundw
          case rel =>
            refine ⟨9, by omega, rfl, HS.out.far _ _ (by simp; omega), ?_⟩
            have h2 := HB.out.set 8 (.int .u8 (dg ⟨r0, r1, r2, r3, r4, r5, r6, r7⟩ 8))
            rw [dCells_set, show dg ⟨r0, r1, r2, r3, r4, r5, r6, r7⟩ 8 = r2 / 16777216 % 256 from rfl] at h2
            simpa using h2
          case measure => simp [intOf]
        · go_wp2
          go_roundw
          case rel =>
            refine ⟨10, by omega, rfl, HS.out.far _ _ (by simp; omega), ?_⟩
            have h2 := HB.out.set 9 (.int .u8 (dg ⟨r0, r1, r2, r3, r4, r5, r6, r7⟩ 9))
            rw [dCells_set, show dg ⟨r0, r1, r2, r3, r4, r5, r6, r7⟩ 9 = r2 / 65536 % 256 from rfl] at h2
            simpa using h2
          case measure => simp [intOf]
        · go_wp2
          go_roundw
          case rel =>
            refine ⟨11, by omega, rfl, HS.out.far _ _ (by simp; omega), ?_⟩
            have h2 := HB.out.set 10 (.int .u8 (dg ⟨r0, r1, r2, r3, r4, r5, r6, r7⟩ 10))
            rw [dCells_set, show dg ⟨r0, r1, r2, r3, r4, r5, r6, r7⟩ 10 = r2 / 256 % 256 from rfl] at h2
            simpa using h2
          case measure => simp [intOf]
        · go_wp2
          go_roundw
          case rel =>
            refine ⟨12, by omega, rfl, HS.out.far _ _ (by simp; omega), ?_⟩
            have h2 := HB.out.set 11 (.int .u8 (dg ⟨r0, r1, r2, r3, r4, r5, r6, r7⟩ 11))
            rw [dCells_set, show dg ⟨r0, r1, r2, r3, r4, r5, r6, r7⟩ 11 = r2 / 1 % 256 from rfl] at h2
            simpa using h2
          case measure => simp [intOf]
        · go_wp2
          go_roundw
          case rel =>
            refine ⟨13, by omega, rfl, HS.out.far _ _ (by simp; omega), ?_⟩
            have h2 := HB.out.set 12 (.int .u8 (dg ⟨r0, r1, r2, r3, r4, r5, r6, r7⟩ 12))
            rw [dCells_set, show dg ⟨r0, r1, r2, r3, r4, r5, r6, r7⟩ 12 = r3 / 16777216 % 256 from rfl] at h2
            simpa using h2
          case measure => simp [intOf]
        · go_wp2
          go_roundw
          case rel =>
            refine ⟨14, by omega, rfl, HS.out.far _ _ (by simp; omega), ?_⟩
            have h2 := HB.out.set 13 (.int .u8 (dg ⟨r0, r1, r2, r3, r4, r5, r6, r7⟩ 13))
            rw [dCells_set, show dg ⟨r0, r1, r2, r3, r4, r5, r6, r7⟩ 13 = r3 / 65536 % 256 from rfl] at h2
            simpa using h2
          case measure => simp [intOf]
        · go_wp2
          go_roundw
          case rel =>
            refine ⟨15, by omega, rfl, HS.out.far _ _ (by simp; omega), ?_⟩
            have h2 := HB.out.set 14 (.int .u8 (dg ⟨r0, r1, r2, r3, r4, r5, r6, r7⟩ 14))
            rw [dCells_set, show dg ⟨r0, r1, r2, r3, r4, r5, r6, r7⟩ 14 = r3 / 256 % 256 from rfl] at h2
            simpa using h2
          case measure => simp [intOf]
        · go_wp2
          go_roundw
          case rel =>
            refine ⟨16, by omega, rfl, HS.out.far _ _ (by simp; omega), ?_⟩
            have h2 := HB.out.set 15 (.int .u8 (dg ⟨r0, r1, r2, r3, r4, r5, r6, r7⟩ 15))
            rw [dCells_set, show dg ⟨r0, r1, r2, r3, r4, r5, r6, r7⟩ 15 = r3 / 1 % 256 from rfl] at h2
            simpa using h2
          case measure => simp [intOf]
        · go_wp2
          go_roundw
          case rel =>
            refine ⟨17, by omega, rfl, HS.out.far _ _ (by simp; omega), ?_⟩
            have h2 := HB.out.set 16 (.int .u8 (dg ⟨r0, r1, r2, r3, r4, r5, r6, r7⟩ 16))
            rw [dCells_set, show dg ⟨r0, r1, r2, r3, r4, r5, r6, r7⟩ 16 = r4 / 16777216 % 256 from rfl] at h2
            simpa using h2
          case measure => simp [intOf]
        · go_wp2
          go_roundw
          case rel =>
            refine ⟨18, by omega, rfl, HS.out.far _ _ (by simp; omega), ?_⟩
            have h2 := HB.out.set 17 (.int .u8 (dg ⟨r0, r1, r2, r3, r4, r5, r6, r7⟩ 17))
            rw [dCells_set, show dg ⟨r0, r1, r2, r3, r4, r5, r6, r7⟩ 17 = r4 / 65536 % 256 from rfl] at h2
            simpa using h2
          case measure => simp [intOf]
        · go_wp2
          go_roundw
          case rel =>
            refine ⟨19, by omega, rfl, HS.out.far _ _ (by simp; omega), ?_⟩
            have h2 := HB.out.set 18 (.int .u8 (dg ⟨r0, r1, r2, r3, r4, r5, r6, r7⟩ 18))
            rw [dCells_set, show dg ⟨r0, r1, r2, r3, r4, r5, r6, r7⟩ 18 = r4 / 256 % 256 from rfl] at h2
            simpa using h2
          case measure => simp [intOf]
        · go_wp2
          go_roundw
          case rel =>
            refine ⟨20, by omega, rfl, HS.out.far _ _ (by simp; omega), ?_⟩
            have h2 := HB.out.set 19 (.int .u8 (dg ⟨r0, r1, r2, r3, r4, r5, r6, r7⟩ 19))
            rw [dCells_set, show dg ⟨r0, r1, r2, r3, r4, r5, r6, r7⟩ 19 = r4 / 1 % 256 from rfl] at h2
            simpa using h2
          case measure => simp [intOf]
        · go_wp2
          go_roundw
          case rel =>
            refine ⟨21, by omega, rfl, HS.out.far _ _ (by simp; omega), ?_⟩
            have h2 := HB.out.set 20 (.int .u8 (dg ⟨r0, r1, r2, r3, r4, r5, r6, r7⟩ 20))
            rw [dCells_set, show dg ⟨r0, r1, r2, r3, r4, r5, r6, r7⟩ 20 = r5 / 16777216 % 256 from rfl] at h2
            simpa using h2
          case measure => simp [intOf]
        · go_wp2
          go_roundw
          case rel =>
            refine ⟨22, by omega, rfl, HS.out.far _ _ (by simp; omega), ?_⟩
            have h2 := HB.out.set 21 (.int .u8 (dg ⟨r0, r1, r2, r3, r4, r5, r6, r7⟩ 21))
            rw [dCells_set, show dg ⟨r0, r1, r2, r3, r4, r5, r6, r7⟩ 21 = r5 / 65536 % 256 from rfl] at h2
            simpa using h2
          case measure => simp [intOf]
        · go_wp2
          go_roundw
          case rel =>
            refine ⟨23, by omega, rfl, HS.out.far _ _ (by simp; omega), ?_⟩
            have h2 := HB.out.set 22 (.int .u8 (dg ⟨r0, r1, r2, r3, r4, r5, r6, r7⟩ 22))
            rw [dCells_set, show dg ⟨r0, r1, r2, r3, r4, r5, r6, r7⟩ 22 = r5 / 256 % 256 from rfl] at h2
            simpa using h2
          case measure => simp [intOf]
        · go_wp2
          go_roundw
          case rel =>
            refine ⟨24, by omega, rfl, HS.out.far _ _ (by simp; omega), ?_⟩
            have h2 := HB.out.set 23 (.int .u8 (dg ⟨r0, r1, r2, r3, r4, r5, r6, r7⟩ 23))
            rw [dCells_set, show dg ⟨r0, r1, r2, r3, r4, r5, r6, r7⟩ 23 = r5 / 1 % 256 from rfl] at h2
            simpa using h2
          case measure => simp [intOf]
        · go_wp2
          go_roundw
          case rel =>
            refine ⟨25, by omega, rfl, HS.out.far _ _ (by simp; omega), ?_⟩
            have h2 := HB.out.set 24 (.int .u8 (dg ⟨r0, r1, r2, r3, r4, r5, r6, r7⟩ 24))
            rw [dCells_set, show dg ⟨r0, r1, r2, r3, r4, r5, r6, r7⟩ 24 = r6 / 16777216 % 256 from rfl] at h2
            simpa using h2
          case measure => simp [intOf]
        · go_wp2
          go_roundw
          case rel =>
            refine ⟨26, by omega, rfl, HS.out.far _ _ (by simp; omega), ?_⟩
            have h2 := HB.out.set 25 (.int .u8 (dg ⟨r0, r1, r2, r3, r4, r5, r6, r7⟩ 25))
            rw [dCells_set, show dg ⟨r0, r1, r2, r3, r4, r5, r6, r7⟩ 25 = r6 / 65536 % 256 from rfl] at h2
            simpa using h2
          case measure => simp [intOf]
        · go_wp2
          go_roundw
          case rel =>
            refine ⟨27, by omega, rfl, HS.out.far _ _ (by simp; omega), ?_⟩
            have h2 := HB.out.set 26 (.int .u8 (dg ⟨r0, r1, r2, r3, r4, r5, r6, r7⟩ 26))
            rw [dCells_set, show dg ⟨r0, r1, r2, r3, r4, r5, r6, r7⟩ 26 = r6 / 256 % 256 from rfl] at h2
            simpa using h2
          case measure => simp [intOf]
        · go_wp2
          go_roundw
          case rel =>
            refine ⟨28, by omega, rfl, HS.out.far _ _ (by simp; omega), ?_⟩
            have h2 := HB.out.set 27 (.int .u8 (dg ⟨r0, r1, r2, r3, r4, r5, r6, r7⟩ 27))
            rw [dCells_set, show dg ⟨r0, r1, r2, r3, r4, r5, r6, r7⟩ 27 = r6 / 1 % 256 from rfl] at h2
            simpa using h2
          case measure => simp [intOf]
        · go_wp2
          go_roundw
          case rel =>
            refine ⟨29, by omega, rfl, HS.out.far _ _ (by simp; omega), ?_⟩
            have h2 := HB.out.set 28 (.int .u8 (dg ⟨r0, r1, r2, r3, r4, r5, r6, r7⟩ 28))
            rw [dCells_set, show dg ⟨r0, r1, r2, r3, r4, r5, r6, r7⟩ 28 = r7 / 16777216 % 256 from rfl] at h2
            simpa using h2
          case measure => simp [intOf]
        · go_wp2
          go_roundw
          case rel =>
            refine ⟨30, by omega, rfl, HS.out.far _ _ (by simp; omega), ?_⟩
            have h2 := HB.out.set 29 (.int .u8 (dg ⟨r0, r1, r2, r3, r4, r5, r6, r7⟩ 29))
            rw [dCells_set, show dg ⟨r0, r1, r2, r3, r4, r5, r6, r7⟩ 29 = r7 / 65536 % 256 from rfl] at h2
            simpa using h2
          case measure => simp [intOf]
        · go_wp2
          go_roundw
          case rel =>
            refine ⟨31, by omega, rfl, HS.out.far _ _ (by simp; omega), ?_⟩
            have h2 := HB.out.set 30 (.int .u8 (dg ⟨r0, r1, r2, r3, r4, r5, r6, r7⟩ 30))
            rw [dCells_set, show dg ⟨r0, r1, r2, r3, r4, r5, r6, r7⟩ 30 = r7 / 256 % 256 from rfl] at h2
            simpa using h2
          case measure => simp [intOf]
        · go_wp2
          go_roundw
          case rel =>
            refine ⟨32, by omega, rfl, HS.out.far _ _ (by simp; omega), ?_⟩
            have h2 := HB.out.set 31 (.int .u8 (dg ⟨r0, r1, r2, r3, r4, r5, r6, r7⟩ 31))
            rw [dCells_set, show dg ⟨r0, r1, r2, r3, r4, r5, r6, r7⟩ 31 = r7 / 1 % 256 from rfl] at h2
            simpa using h2
          case measure => simp [intOf]
      · obtain rfl : i = 32 := by omega
        clear hS hB
        go_wp2_with (first
          | (refine wpList_load_blk rfl _ _ rfl D rfl 22 (dCells ⟨r0, r1, r2, r3, r4, r5, r6, r7⟩ 32) HB.out _ Tryz.underlying22 rfl (by rw [info_32, dCells_length]) ?_)
          | (refine wpList_store_blk rfl _ _ _ rfl (w.heap.size + 1) (dCells ⟨r0, r1, r2, r3, r4, r5, r6, r7⟩ 32) rfl rfl 22 _ HS.out.bR (by rw [info_32, dCells_length]) (by rw [dCells_length]; rfl) (dCells_one _ _) ?_; intro w6 hz6 hB6 hg6))
        exact bodyPost_ret (results_blk rfl _ _ (w.heap.size + 1) 22 (dCells ⟨r0, r1, r2, r3, r4, r5, r6, r7⟩ 32) _ rfl hB6 Tryz.underlying22 rfl (by rw [info_32, dCells_length])) rfl ⟨by rw [HRR.out], HS.out.chg.fresh hg6 (by simp)⟩
end Go.Proofs.YtfdhgakalojahaaGreatDoor

namespace Go.Proofs.YtfdhgakalojahaaGreatDoor
open Go.RowKit

namespace PUtf
open Utf (lowN highN)
def formV (c : Nat) : Value := .agg #[.int .i64 (Utf.wideN c), .int .u8 (lowN c), .int .u8 (highN c)]

theorem form_post {c : Nat} {a l h : Int} (ha : a = Utf.wideN c) (hl : l = lowN c) (hh : h = highN c) :
    Ending.returned (.agg #[.int .i64 a, .int .u8 l, .int .u8 h]) = .returned (formV c) := by
  subst ha; subst hl; subst hh; rfl
end PUtf

set_option maxRecDepth 100000 in
set_option maxHeartbeats 1000000 in
theorem utf_formOf (c : Nat) (hc : c < 256) (w : World) :
    Calls Tryz.prog 158 #[.int .u8 c] w fun e w' => e = .returned (PUtf.formV c) ∧ Chg w w' [] := by
  go_enter Tryz.func158, Tryz.ntmps158
  go_wp2
  all_goals refine bodyPost_ret (v := .agg #[.int .i64 _, .int .u8 _, .int .u8 _]) (by simp [results, Tryz.results158, go_sem]; exact ⟨rfl, rfl, rfl⟩) rfl ⟨PUtf.form_post ?_ ?_ ?_, (Chg.refl _ _).alloc _⟩
  all_goals go_light
  all_goals (try simp only [beq_iff_eq, beq_eq_false_iff_ne, ne_eq] at *)
  all_goals (first | unfold Utf.wideN | unfold Utf.lowN | unfold Utf.highN)
  all_goals repeat' split
  all_goals omega

set_option maxRecDepth 100000 in
set_option maxHeartbeats 1000000 in
theorem utf_may (c i d : Nat) (hn : 2 ≤ Utf.wideN c) (w : World) :
    Calls Tryz.prog 159 #[PUtf.formV c, .int .i64 i, .int .u8 d] w fun e w' => e = .returned (.bool (Utf.mayB c i d)) ∧ Chg w w' [] := by
  unfold PUtf.formV
  go_enter Tryz.func159, Tryz.ntmps159
  by_cases h1 : i = 1
  · have t1 : ((i : Int) == 1) = true := by simp [h1]
    have H1 := Lib.hid h1
    clear h1
    go_wp2
    all_goals go_ret
    all_goals refine ⟨ret_bool ?_, (Chg.refl _ _).alloc _⟩
    all_goals rw [H1.out, Utf.mayB_one, Utf.second_low d hn, Bool.eq_iff_iff]
    all_goals simp
    all_goals omega
  · have t1 : ((i : Int) == 1) = false := beq_eq_false_iff_ne.2 (by omega)
    have H1 := Lib.hid h1
    clear h1
    go_wp2
    all_goals go_ret
    all_goals refine ⟨ret_bool ?_, (Chg.refl _ _).alloc _⟩
    all_goals rw [Utf.mayB_ne H1.out, Utf.contB, Bool.eq_iff_iff]
    all_goals simp
    all_goals omega


theorem utf_may' (c i d n : Nat) (hN : n = Utf.wideN c) (hn : 2 ≤ Utf.wideN c) (w : World) :
    Calls Tryz.prog 159 #[.agg #[.int .i64 n, .int .u8 (Utf.lowN c), .int .u8 (Utf.highN c)], .int .i64 i, .int .u8 d] w fun e w' =>
      e = .returned (.bool (Utf.mayB c i d)) ∧ Chg w w' [] := by
  subst hN; exact utf_may c i d hn w
end Go.Proofs.YtfdhgakalojahaaGreatDoor

/- WALKS: the reference's layer 2: one whole block written to a hash. -/
import Derived.Deep.RegionLaw
import Derived.Test.YtfdhgakalojahaaGreatDoorM18
set_option linter.unusedSimpArgs false
set_option linter.unusedVariables false
set_option linter.unnecessarySimpa false
set_option linter.unusedSectionVars false
namespace Go.Proofs.YtfdhgakalojahaaGreatDoor
open Go Go.RowKit

def bUpto (k : Nat) : List Value := (List.range 64).map fun j => .int .u8 (if j < k then Sha.bv j else 0)
theorem bUpto_length (k : Nat) : (bUpto k).length = 64 := by simp [bUpto]
theorem bUpto_get {k j : Nat} (hj : j < 64) : (bUpto k)[j]? = some (.int .u8 (if j < k then Sha.bv j else 0)) := by
  unfold bUpto; rw [List.getElem?_map, List.getElem?_range hj]; rfl
theorem bUpto_set (k : Nat) : (bUpto k).set k (.int .u8 (Sha.bv k)) = bUpto (k + 1) := by
  apply List.ext_getElem?
  intro i
  by_cases hi : i < 64
  · rw [List.getElem?_set, bUpto_get hi, bUpto_get hi, bUpto_length]
    by_cases h : k = i
    · subst h; simp [hi]
    · rw [if_neg h]
      by_cases h2 : i < k
      · rw [if_pos h2, if_pos (by omega)]
      · rw [if_neg h2, if_neg (by omega)]
  · rw [List.getElem?_eq_none (by rw [List.length_set, bUpto_length]; omega), List.getElem?_eq_none (by rw [bUpto_length]; omega)]
theorem bUpto_zero : bUpto 0 = List.replicate 64 (.int .u8 0) := by
  apply List.ext_getElem?
  intro i
  by_cases hi : i < 64
  · rw [bUpto_get hi, List.getElem?_replicate, if_pos hi]; simp
  · rw [List.getElem?_eq_none (by rw [bUpto_length]; omega), List.getElem?_eq_none (by simp; omega)]
theorem bUpto_full : bUpto 64 = Sha.bCells := by
  apply List.ext_getElem?
  intro i
  by_cases hi : i < 64
  · rw [bUpto_get hi, Sha.bCells_get hi, if_pos hi]
  · rw [List.getElem?_eq_none (by rw [bUpto_length]; omega), List.getElem?_eq_none (by rw [bCells_len]; omega)]

theorem WS.words {w wr : World} {s : Sha.St} {n : Int} {rest : Value} (h : WS w wr s n rest) (r0 r1 r2 r3 r4 r5 r6 r7 : Int) :
    WS w ((((((((wr.setCell ⟨w.heap.size, 0, none⟩ (.int .u32 r0)).setCell ⟨w.heap.size, 1, none⟩ (.int .u32 r1)).setCell ⟨w.heap.size, 2, none⟩ (.int .u32 r2)).setCell ⟨w.heap.size, 3, none⟩ (.int .u32 r3)).setCell ⟨w.heap.size, 4, none⟩ (.int .u32 r4)).setCell ⟨w.heap.size, 5, none⟩ (.int .u32 r5)).setCell ⟨w.heap.size, 6, none⟩ (.int .u32 r6)).setCell ⟨w.heap.size, 7, none⟩ (.int .u32 r7)) ⟨r0, r1, r2, r3, r4, r5, r6, r7⟩ n rest :=
  ⟨(((((((h.chg.setCell _ _ (by simp)).setCell _ _ (by simp)).setCell _ _ (by simp)).setCell _ _ (by simp)).setCell _ _ (by simp)).setCell _ _ (by simp)).setCell _ _ (by simp)).setCell _ _ (by simp),
    (((((((h.bH.set 0 _).set 1 _).set 2 _).set 3 _).set 4 _).set 5 _).set 6 _).set 7 _,
    (((((((h.bR.set_other _ _ (by simp)).set_other _ _ (by simp)).set_other _ _ (by simp)).set_other _ _ (by simp)).set_other _ _ (by simp)).set_other _ _ (by simp)).set_other _ _ (by simp)).set_other _ _ (by simp)⟩

def WritePost (s : Sha.St) (w : World) (e : Ending) (w' : World) : Prop := e = .returned (.agg (HC (Sha.round (rootV true) s) 1 (.slice none 0 0)).toArray) ∧ Chg w w' []

/-- how the loop stands behind i bytes -/
def WRr (s : Sha.St) (w wr : World) (i : Nat) : Prop :=
  (i < 64 ∧ ∃ a c, WS w wr s 0 (.slice a i c) ∧ Lst wr (.slice a i c) 5 (Sha.bCells.take i) ∧ ∀ g, (Value.slice a i c).ownBlock = some g → w.heap.size + 2 ≤ g) ∨
  (i = 64 ∧ WS w wr (Sha.round (rootV true) s) 1 (.slice none 0 0))

set_option maxRecDepth 100000 in
set_option maxHeartbeats 16000000 in
theorem r2_Write (s : Sha.St) (a : Option Addr) (c bb cap : Nat) (w : World) (hb : ∀ i, i < 64 → w.cell? ⟨bb, i, none⟩ = some (.int .u8 (Sha.bv i))) :
    Calls Tryz.prog 113 #[.agg (HC s 0 (.slice a 0 c)).toArray, .slice (some ⟨bb, 0, none⟩) 64 cap] w (WritePost s w) := by
  have HBB := Lib.hid hb
  have hcb : (Value.agg (HC s 0 (.slice a 0 c)).toArray).cells = (HC s 0 (.slice a 0 c)).toArray := rfl
  obtain ⟨w0, hw0⟩ : ∃ x, x = (w.alloc (.cells (HC s 0 (.slice a 0 c)).toArray 215)).alloc (.cells z10.toArray 215) := ⟨_, rfl⟩
  have HS0 : Hid (WS w w0 s 0 (.slice a 0 c)) := by
    rw [hw0]
    have h := Blk.new (w.alloc (.cells (HC s 0 (.slice a 0 c)).toArray 215)) z10 215
    rw [World.size_alloc] at h
    exact Lib.hid ⟨((Chg.refl w []).alloc _).alloc _, (Blk.new w _ _).alloc _, h⟩
  rw [z10_arr] at hw0
  have HW := Lib.hid hw0
  clear hw0 hb
  go_enter Tryz.func113, Tryz.ntmps113
  go_upto_region 1 with (fail)
  rw [← HW.out]
  go_wp2_with (first
    | (refine wpList_load_blk rfl _ _ rfl w.heap.size rfl 215 (HC s 0 (.slice a 0 c)) HS0.out.bH _ Tryz.underlying215 rfl info_rh ?_)
    | (go_at_call 133; ((with_reducible refine (r2_Copy _ _ _ _).mono ?_); rintro e w1 ⟨g1, rfl, hg1', hl1, hg1⟩; have HS1 := Lib.hid (HS0.out.kept hg1 (by simp)); have HL1 := Lib.hid hl1; clear hg1 hl1))
    | (refine wpList_store_blk rfl _ _ _ rfl w.heap.size (HC s 0 (.slice (some ⟨g1, 0, none⟩) 0 0)) rfl rfl 215 (HC s 0 (.slice a 0 c)) HS1.out.bH info_rh rfl (HC_one _ _ _ _ _) ?_; intro w2 hz2 hB2 hg2))
  have hsz := HS0.out.bR.lt
  have HS2 : Hid (WS w w2 s 0 (.slice (some ⟨g1, 0, none⟩) 0 0)) := Lib.hid ⟨HS1.out.chg.fresh hg2 (by simp), hB2, HS1.out.bR.kept hg2 (by simp)⟩
  have HL2 := Lib.hid (HL1.out.kept hg2 (by simp [Value.ownBlock]; omega))
  clear hB2 hg2 hz2 HS0 HS1 HL1
  go_loopw [5] (fun v wr => ∃ i : Nat, v = .int .i64 i ∧ WRr s w wr i) (fun v _ => 64 - (intOf v).toNat)
  case atStart => exact ⟨0, rfl, .inl ⟨by omega, some ⟨g1, 0, none⟩, 0, HS2.out, HL2.out, fun g hg => by simp [Value.ownBlock] at hg; omega⟩⟩
  case round =>
    clear HS2 HL2
    obtain ⟨wa, rfl⟩ : ∃ x, x = wr := ⟨_, rfl⟩
    obtain ⟨i, rfl, hR⟩ := hrel
    rcases hR with ⟨hi, a2, c2, hS, hL, hO⟩ | ⟨rfl, hS⟩
    · by_cases h63 : i < 63
      · have d64 : decide ((i : Int) < 64) = true := by simp; omega
        have i64 : (i : Int) < 64 := by omega
        have i0 : (0 : Int) ≤ i := by omega
        have HS := Lib.hid hS
        have HL := Lib.hid hL
        have HO := Lib.hid hO
        have c9 : wa.cell? ⟨w.heap.size, 9, none⟩ = some (.slice a2 i c2) := by rw [hS.bH.cell]; rfl
        have hf : ∀ j, wa.frozen? ⟨w.heap.size, j, none⟩ = false := fun j => hS.bH.frozen j
        have hl := hS.bH.lt
        have cb : wa.cell? ⟨bb, i, none⟩ = some (.int .u8 (Sha.bv i)) := hS.chg.keeps (HBB.out i (by omega))
        have HLN : Hid ((Sha.bCells.take i).length = i) := Lib.hid (bCells_take_len (by omega))
        have HT : Hid (Sha.bCells.take (i + 1) = Sha.bCells.take i ++ [.int .u8 (Sha.bv i)]) := Lib.hid (bCells_take_succ (by omega))
        clear hS hL hO
        go_wp2_with fail
        go_region_law (first | (refine step_append1 rfl _ _ _ rfl 5 (.int .u8 0) 1 Tryz.underlying90 info_byte rfl (.slice a2 i c2) (Sha.bCells.take i) (by rfl) (by exact HL.out.kept (bs := []) (by (repeat (first | exact Chg.refl _ _ | with_reducible refine Chg.drewN ?_ _ | with_reducible refine Chg.drew ?_ | with_reducible refine Chg.alloc ?_ _ | with_reducible refine Chg.setCell ?_ _ _ (by simp) | with_reducible refine Chg.setCell ?_ _ _ (by simp; omega)))) (by simp)) wa.heap.size (.int .u8 (Sha.bv i)) (by rfl) (by exact cell_new (by simp) _ _) (by rfl) (by rw [HLN.out]; omega) (by rw [HLN.out]; omega) ?_; rw [HLN.out]; intro g3 cap3 w3 hL3 hC3 hG3; have HL3 := Lib.hid hL3; have HG3 := Lib.hid hG3; have HS3 := Lib.hid ((HS.out.alloc (.cells #[.int .u8 (Sha.bv i)] 5)).drew.kept hC3 (fun k hk => HO.out k (by simpa using hk))); have c93 : w3.cell? ⟨w.heap.size, 9, none⟩ = some (.slice a2 i c2) := (by rw [HS3.out.bH.cell]; rfl); have f3 : ∀ j, w3.frozen? ⟨w.heap.size, j, none⟩ = false := (fun j => HS3.out.bH.frozen j); have lb3 := HS3.out.bH.lt; clear hL3 hG3 hC3))
        all_goals
          clear cb c93 f3 lb3
          have hg3 : w.heap.size + 2 ≤ g3 := by
            rcases HG3.out with h | h
            · exact HO.out _ h
            · have := HS.out.bR.lt; simp at h; omega
          obtain ⟨w4, hw4⟩ : ∃ x, x = w3.setCell ⟨w.heap.size, 9, none⟩ (.slice (some ⟨g3, 0, none⟩) (i + 1) cap3) := ⟨_, rfl⟩
          have HS4 : Hid (WS w w4 s 0 (.slice (some ⟨g3, 0, none⟩) (i + 1) cap3)) := by rw [hw4]; exact Lib.hid (HS3.out.rest _)
          have HL4 : Hid (Lst w4 (.slice (some ⟨g3, 0, none⟩) (i + 1) cap3) 5 (Sha.bCells.take (i + 1))) := by
            have h := HL3.out
            rw [← HT.out] at h
            rw [hw4]
            exact Lib.hid (h.kept (bs := [w.heap.size]) ((Chg.refl _ _).setCell _ _ (by simp)) (by simp [Value.ownBlock]; omega))
          change Exit.then _ _ _ _ (w3.setCell ⟨w.heap.size, 9, none⟩ (.slice (some ⟨g3, 0, none⟩) (i + 1) cap3))
          rw [← hw4]
          clear hw4 HS3 HL3 HG3 HS HL HO HT HLN w3 c9 hf hl
          have c94 : w4.cell? ⟨w.heap.size, 9, none⟩ = some (.slice (some ⟨g3, 0, none⟩) (i + 1) cap3) := by rw [HS4.out.bH.cell]; rfl
          have n64 : ((i : Int) + 1 == 64) = false := by simp; omega
          go_wp2
          go_roundw
          case rel => exact ⟨i + 1, by go_num, .inl ⟨by omega, _, _, HS4.out, HL4.out, fun g hg => by simp [Value.ownBlock] at hg; omega⟩⟩
          case measure => simp [intOf]; omega
      · obtain rfl : i = 63 := by omega
        rw [show ((63 : Nat) : Int) = 63 from rfl]
        have HS := Lib.hid hS
        have HL := Lib.hid hL
        have HO := Lib.hid hO
        have c9 : wa.cell? ⟨w.heap.size, 9, none⟩ = some (.slice a2 63 c2) := by rw [hS.bH.cell]; rfl
        have hf : ∀ j, wa.frozen? ⟨w.heap.size, j, none⟩ = false := fun j => hS.bH.frozen j
        have hl := hS.bH.lt
        have cb : wa.cell? ⟨bb, 63, none⟩ = some (.int .u8 (Sha.bv 63)) := hS.chg.keeps (HBB.out 63 (by omega))
        have HLN : Hid ((Sha.bCells.take 63).length = 63) := Lib.hid (bCells_take_len (by omega))
        have HT : Hid (Sha.bCells.take (63 + 1) = Sha.bCells.take 63 ++ [.int .u8 (Sha.bv 63)]) := Lib.hid (bCells_take_succ (by omega))
        clear hS hL hO
        go_wp2_with fail
        go_region_law (first | (refine step_append1 rfl _ _ _ rfl 5 (.int .u8 0) 1 Tryz.underlying90 info_byte rfl (.slice a2 63 c2) (Sha.bCells.take 63) (by rfl) (by exact HL.out.kept (bs := []) (by (repeat (first | exact Chg.refl _ _ | with_reducible refine Chg.drewN ?_ _ | with_reducible refine Chg.drew ?_ | with_reducible refine Chg.alloc ?_ _ | with_reducible refine Chg.setCell ?_ _ _ (by simp) | with_reducible refine Chg.setCell ?_ _ _ (by simp; omega)))) (by simp)) wa.heap.size (.int .u8 (Sha.bv 63)) (by rfl) (by exact cell_new (by simp) _ _) (by rfl) (by rw [HLN.out]; omega) (by rw [HLN.out]; omega) ?_; rw [HLN.out]; intro g3 cap3 w3 hL3 hC3 hG3; have HL3 := Lib.hid hL3; have HG3 := Lib.hid hG3; have HS3 := Lib.hid ((HS.out.alloc (.cells #[.int .u8 (Sha.bv 63)] 5)).drew.kept hC3 (fun k hk => HO.out k (by simpa using hk))); have c93 : w3.cell? ⟨w.heap.size, 9, none⟩ = some (.slice a2 63 c2) := (by rw [HS3.out.bH.cell]; rfl); have f3 : ∀ j, w3.frozen? ⟨w.heap.size, j, none⟩ = false := (fun j => HS3.out.bH.frozen j); have lb3 := HS3.out.bH.lt; clear hL3 hG3 hC3))
        all_goals
          clear cb c93 f3 lb3
          have hg3 : w.heap.size + 2 ≤ g3 := by
            rcases HG3.out with h | h
            · exact HO.out _ h
            · have := HS.out.bR.lt; simp at h; omega
          obtain ⟨w4, hw4⟩ : ∃ x, x = w3.setCell ⟨w.heap.size, 9, none⟩ (.slice (some ⟨g3, 0, none⟩) 64 cap3) := ⟨_, rfl⟩
          have HS4 : Hid (WS w w4 s 0 (.slice (some ⟨g3, 0, none⟩) 64 cap3)) := by rw [hw4]; exact Lib.hid (HS3.out.rest _)
          have HL4 : Hid (Lst w4 (.slice (some ⟨g3, 0, none⟩) 64 cap3) 5 (Sha.bCells.take 64)) := by
            have h := HL3.out
            rw [← HT.out] at h
            rw [hw4]
            exact Lib.hid (h.kept (bs := [w.heap.size]) ((Chg.refl _ _).setCell _ _ (by simp)) (by simp [Value.ownBlock]; omega))
          change Exit.then _ _ _ _ (w3.setCell ⟨w.heap.size, 9, none⟩ (.slice (some ⟨g3, 0, none⟩) 64 cap3))
          rw [← hw4]
          clear hw4 HS3 HL3 HG3 HS HL HO HT HLN w3 c9 hf hl
          have c94 : w4.cell? ⟨w.heap.size, 9, none⟩ = some (.slice (some ⟨g3, 0, none⟩) 64 cap3) := by rw [HS4.out.bH.cell]; rfl
          go_wp2_with fail
          obtain ⟨D, hD⟩ : ∃ D, D = w4.heap.size := ⟨_, rfl⟩
          have hgD : g3 < D := by rw [hD]; exact HL4.out.lt rfl
          have hXD : w.heap.size + 1 < D := by rw [hD]; exact HS4.out.bR.lt
          obtain ⟨w5, hw5⟩ : ∃ x, x = w4.alloc (.cells (List.replicate 64 (.int .u8 0)).toArray 223) := ⟨_, rfl⟩
          have HS5 : Hid (WS w w5 s 0 (.slice (some ⟨g3, 0, none⟩) 64 cap3)) := by rw [hw5]; exact Lib.hid (HS4.out.alloc _)
          have HL5 : Hid (Lst w5 (.slice (some ⟨g3, 0, none⟩) 64 cap3) 5 Sha.bCells) := by
            rw [hw5]
            have h := HL4.out.kept ((Chg.refl w4 []).alloc (.cells (List.replicate 64 (.int .u8 0)).toArray 223)) (by simp)
            rw [List.take_of_length_le (by rw [bCells_len]; omega)] at h
            exact Lib.hid h
          have HB5 : Hid (Blk w5 D (bUpto 0) 223) := by rw [hw5, hD, bUpto_zero]; exact Lib.hid (Blk.new _ _ _)
          change Code.wp _ _ _ _ (w4.alloc (.cells (List.replicate 64 (.int .u8 0)).toArray 223))
          rw [← hw5, ← hD]
          clear hw5 hD HS4 HL4 c94
          go_loopw [7] (fun v wr => ∃ k : Nat, k ≤ 64 ∧ v = .int .i64 k ∧ WS w wr s 0 (.slice (some ⟨g3, 0, none⟩) 64 cap3) ∧ Lst wr (.slice (some ⟨g3, 0, none⟩) 64 cap3) 5 Sha.bCells ∧ Blk wr D (bUpto k) 223) (fun v _ => 64 - (intOf v).toNat)
          case atStart => exact ⟨0, by omega, rfl, HS5.out, HL5.out, HB5.out⟩
          case round =>
            clear HS5 HL5 HB5
            obtain ⟨wb, rfl⟩ : ∃ x, x = wr := ⟨_, rfl⟩
            obtain ⟨k, hk, rfl, hS, hL, hB⟩ := hrel
            have HS := Lib.hid hS
            have HL := Lib.hid hL
            have HB := Lib.hid hB
            by_cases hlt : k < 64
            · have i64 : (k : Int) < 64 := by omega
              have i0 : (0 : Int) ≤ k := by omega
              have c9 : wb.cell? ⟨w.heap.size, 9, none⟩ = some (.slice (some ⟨g3, 0, none⟩) 64 cap3) := by rw [hS.bH.cell]; rfl
              have ce : wb.cell? ⟨g3, k, none⟩ = some (.int .u8 (Sha.bv k)) := hL.cell rfl k _ (Sha.bCells_get hlt)
              have cd : wb.cell? ⟨D, k, none⟩ = some (.int .u8 0) := by rw [hB.cell, bUpto_get hlt, if_neg (by omega)]
              have fd : ∀ j, wb.frozen? ⟨D, j, none⟩ = false := fun j => hB.frozen j
              have ld := hB.lt
              clear hS hL hB
              go_wp2
              go_roundw
              case rel =>
                refine ⟨k + 1, by omega, by go_num, HS.out.far _ _ (by simp; omega), HL.out.kept (bs := [D]) ((Chg.refl _ _).setCell _ _ (by simp)) (by simp [Value.ownBlock]; omega), ?_⟩
                have h := HB.out.set k (.int .u8 (Sha.bv k))
                rw [bUpto_set] at h
                exact h
              case measure => simp [intOf]; omega
            · obtain rfl : k = 64 := by omega
              rw [bUpto_full] at HB
              clear hS hL hB HL
              obtain ⟨a0, a1, a2', a3, a4, a5, a6, a7⟩ := s
              obtain ⟨r, hr⟩ : ∃ r, r = Sha.round (rootV true) ⟨a0, a1, a2', a3, a4, a5, a6, a7⟩ := ⟨_, rfl⟩
              have HRD : Hid (∀ w, Calls Tryz.prog 134 #[.agg #[.int .u32 a0, .int .u32 a1, .int .u32 a2', .int .u32 a3, .int .u32 a4, .int .u32 a5, .int .u32 a6, .int .u32 a7], .agg Sha.bCells.toArray] w fun e w' => e = .returned (.agg r.cells.toArray) ∧ Chg w w' []) := by
                intro w; rw [hr]; exact r2_Round a0 a1 a2' a3 a4 a5 a6 a7 w
              have HRR := Lib.hid hr
              clear hr
              obtain ⟨r0, r1, r2, r3, r4, r5, r6, r7⟩ := r
              rw [show (Sha.St.mk r0 r1 r2 r3 r4 r5 r6 r7).cells.toArray = #[.int .u32 r0, .int .u32 r1, .int .u32 r2, .int .u32 r3, .int .u32 r4, .int .u32 r5, .int .u32 r6, .int .u32 r7] from rfl] at HRD
              have hH := HS.out.bH
              rw [HC.eq] at hH
              have q0 := hH.cell 0
              have q1 := hH.cell 1
              have q2 := hH.cell 2
              have q3 := hH.cell 3
              have q4 := hH.cell 4
              have q5 := hH.cell 5
              have q6 := hH.cell 6
              have q7 := hH.cell 7
              simp only [List.getElem?_cons_zero, List.getElem?_cons_succ] at q0 q1 q2 q3 q4 q5 q6 q7
              clear hH
              go_upto_region 12 with (fail)
              go_upto_region 13 with (first
                | (refine wpList_load_blk rfl _ _ rfl D rfl 223 Sha.bCells HB.out _ Tryz.underlying223 rfl (by rw [info_64, bCells_len]) ?_)
                | (go_at_call 134; (refine (HRD.out _).mono ?_); rintro e w6 ⟨rfl, hg6⟩; have HS6 := Lib.hid (HS.out.kept hg6 (by simp)); clear hg6 q0 q1 q2 q3 q4 q5 q6 q7; have hH := HS6.out.bH; rw [HC.eq] at hH; have q0 := hH.cell 0; have q1 := hH.cell 1; have q2 := hH.cell 2; have q3 := hH.cell 3; have q4 := hH.cell 4; have q5 := hH.cell 5; have q6 := hH.cell 6; have q7 := hH.cell 7; have q8 := hH.cell 8; have q9 := hH.cell 9; simp only [List.getElem?_cons_zero, List.getElem?_cons_succ] at q0 q1 q2 q3 q4 q5 q6 q7 q8 q9; have qf : ∀ j, w6.frozen? ⟨w.heap.size, j, none⟩ = false := (fun j => hH.frozen j); have ql := hH.lt; clear hH))
              obtain ⟨w7, hw7⟩ : ∃ x, x = (((((((w6.setCell ⟨w.heap.size, 0, none⟩ (.int .u32 r0)).setCell ⟨w.heap.size, 1, none⟩ (.int .u32 r1)).setCell ⟨w.heap.size, 2, none⟩ (.int .u32 r2)).setCell ⟨w.heap.size, 3, none⟩ (.int .u32 r3)).setCell ⟨w.heap.size, 4, none⟩ (.int .u32 r4)).setCell ⟨w.heap.size, 5, none⟩ (.int .u32 r5)).setCell ⟨w.heap.size, 6, none⟩ (.int .u32 r6)).setCell ⟨w.heap.size, 7, none⟩ (.int .u32 r7) := ⟨_, rfl⟩
              have HS7 : Hid (WS w w7 ⟨r0, r1, r2, r3, r4, r5, r6, r7⟩ 0 (.slice (some ⟨g3, 0, none⟩) 64 cap3)) := by rw [hw7]; exact Lib.hid (HS6.out.words r0 r1 r2 r3 r4 r5 r6 r7)
              rw [← hw7]
              clear hw7 q0 q1 q2 q3 q4 q5 q6 q7 q8 q9 qf ql HS6
              have c8 : w7.cell? ⟨w.heap.size, 8, none⟩ = some (.int .u64 0) := by rw [HS7.out.bH.cell]; rfl
              have c9 : w7.cell? ⟨w.heap.size, 9, none⟩ = some (.slice (some ⟨g3, 0, none⟩) 64 cap3) := by rw [HS7.out.bH.cell]; rfl
              have qf : ∀ j, w7.frozen? ⟨w.heap.size, j, none⟩ = false := fun j => HS7.out.bH.frozen j
              have ql := HS7.out.bH.lt
              go_wp2
              go_roundw
              case rel =>
                refine ⟨64, rfl, .inr ⟨rfl, ?_⟩⟩
                rw [← HRR.out]
                exact ⟨(HS7.out.chg.setCell _ _ (by simp)).setCell _ _ (by simp), (HS7.out.bH.set 8 _).set 9 _, (HS7.out.bR.set_other _ _ (by simp)).set_other _ _ (by simp)⟩
              case measure => simp [intOf]
    · have HS := Lib.hid hS
      obtain ⟨r, hr⟩ : ∃ r, r = Sha.round (rootV true) s := ⟨_, rfl⟩
      rw [← hr] at HS
      have HRR := Lib.hid hr
      clear hS hr
      go_wp2_with (first
        | (refine wpList_load_blk rfl _ _ rfl w.heap.size rfl 215 (HC r 1 (.slice none 0 0)) HS.out.bH _ Tryz.underlying215 rfl info_rh ?_)
        | (refine wpList_store_blk rfl _ _ _ rfl (w.heap.size + 1) (HC r 1 (.slice none 0 0)) rfl rfl 215 z10 HS.out.bR info_rh rfl (HC_one _ _ _ _ _) ?_; intro w6 hz6 hB6 hg6))
      exact bodyPost_ret (results_blk rfl _ _ (w.heap.size + 1) 215 (HC r 1 (.slice none 0 0)) _ rfl hB6 Tryz.underlying215 rfl info_rh) rfl ⟨by rw [HRR.out], HS.out.chg.fresh hg6 (by simp)⟩
end Go.Proofs.YtfdhgakalojahaaGreatDoor

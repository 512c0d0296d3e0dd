/- WALKS: the reference's layer 2: a hash to which nothing was written. WALKS: the reference's layer 2: bytes written to a hash. -/
import Derived.Test.YtfdhgakalojahaaGreatDoorM17
import Derived.Test.YtfdhgakalojahaaGreatDoorM14
import Derived.Test.YtfdhgakalojahaaGreatDoorM07
import Derived.Test.YtfdhgakalojahaaGreatDoorM10
import Derived.Deep.RegionLaw
set_option linter.unusedSimpArgs false
set_option linter.unusedVariables false
set_option linter.unnecessarySimpa false
set_option linter.unusedSectionVars false
namespace Go.Proofs.YtfdhgakalojahaaGreatDoor
open Go Go.RowKit

theorem rootC_fn : (rootC 8 false 8) = Sha.cellsF 8 (rootV false) := by
  unfold rootC
  apply List.ext_getElem?
  intro i
  by_cases hi : i < 8
  · rw [Sha.cellsF_get hi, Sha.cellsF_get hi, if_pos hi]
  · rw [List.getElem?_eq_none (by rw [Sha.cellsF_length]; omega), List.getElem?_eq_none (by rw [Sha.cellsF_length]; omega)]

def firstS : Sha.St := ⟨rootV false 0, rootV false 1, rootV false 2, rootV false 3, rootV false 4, rootV false 5, rootV false 6, rootV false 7⟩

theorem firstS_cells : rootC 8 false 8 = firstS.cells := by
  have h : ∀ g : Nat → Int, Sha.cellsF 8 g = (⟨g 0, g 1, g 2, g 3, g 4, g 5, g 6, g 7⟩ : Sha.St).cells := fun _ => rfl
  rw [rootC_fn]; exact h _

theorem HC_one (s : Sha.St) (n : Int) (a : Option Addr) (k c : Nat) : ∀ v ∈ HC s n (.slice a k c), v.oneCell' = true := by
  intro v hv
  simp only [HC, Sha.St.cells, List.mem_append, List.mem_cons, List.not_mem_nil, or_false] at hv
  rcases hv with (rfl | rfl | rfl | rfl | rfl | rfl | rfl | rfl) | rfl | rfl <;> rfl

theorem info_rh : (Tryz.prog.info? 215).map (·.size) = some 10 := by kernel_rfl

def z10 : List Value := HC ⟨0, 0, 0, 0, 0, 0, 0, 0⟩ 0 (.slice none 0 0)

set_option maxRecDepth 100000 in
set_option maxHeartbeats 4000000 in
theorem r2_New (w : World) :
    Calls Tryz.prog 112 #[] w fun e w' => e = .returned (.agg (HC firstS 0 (.slice none 0 0)).toArray) ∧ Chg w w' [] := by
  obtain ⟨s, hs⟩ : ∃ s, s = firstS := ⟨_, rfl⟩
  have HF : Hid (∀ w, Calls Tryz.prog 132 #[] w fun e w' => e = .returned (.agg s.cells.toArray) ∧ Chg w w' []) := by
    intro w; rw [hs, ← firstS_cells]; exact r2_First w
  rw [← hs]
  clear hs
  obtain ⟨a0, a1, a2, a3, a4, a5, a6, a7⟩ := s
  have qc : (Sha.St.mk a0 a1 a2 a3 a4 a5 a6 a7).cells.toArray = #[.int .u32 a0, .int .u32 a1, .int .u32 a2, .int .u32 a3, .int .u32 a4, .int .u32 a5, .int .u32 a6, .int .u32 a7] := rfl
  rw [qc] at HF
  have HB0 := Lib.hid (Blk.new w z10 215)
  go_enter Tryz.func112, Tryz.ntmps112
  go_wp2_with fail
  refine (HF.out _).mono ?_
  rintro e w1 ⟨rfl, hg1⟩
  have HB1 := Lib.hid (HB0.out.kept hg1 (by simp))
  have HG1 := Lib.hid (((Chg.refl w []).alloc _).trans hg1)
  clear hg1
  go_wp2_with (first
    | (refine wpList_store_blk rfl _ _ _ rfl w.heap.size (HC ⟨a0, a1, a2, a3, a4, a5, a6, a7⟩ 0 (.slice none 0 0)) rfl rfl 215 _ HB1.out info_rh rfl (HC_one _ _ _ _ _) ?_; intro w6 hz6 hB6 hg6))
  exact bodyPost_ret (results_blk rfl _ _ w.heap.size 215 (HC ⟨a0, a1, a2, a3, a4, a5, a6, a7⟩ 0 (.slice none 0 0)) _ rfl hB6 Tryz.underlying215 rfl info_rh) rfl ⟨rfl, HG1.out.fresh hg6 (by simp)⟩

theorem z10_arr : z10.toArray = #[.int .u32 0, .int .u32 0, .int .u32 0, .int .u32 0, .int .u32 0, .int .u32 0, .int .u32 0, .int .u32 0, .int .u64 0, .slice none 0 0] := rfl

set_option maxRecDepth 100000 in
set_option maxHeartbeats 4000000 in
theorem r2_Copy (s : Sha.St) (a : Option Addr) (c : Nat) (w : World) :
    Calls Tryz.prog 133 #[.agg (HC s 0 (.slice a 0 c)).toArray] w fun e w' => ∃ g, e = .returned (.agg (HC s 0 (.slice (some ⟨g, 0, none⟩) 0 0)).toArray) ∧ w.heap.size + 2 ≤ g ∧ Lst w' (.slice (some ⟨g, 0, none⟩) 0 0) 5 [] ∧ Chg w w' [] := by
  have hcb : (Value.agg (HC s 0 (.slice a 0 c)).toArray).cells = (HC s 0 (.slice a 0 c)).toArray := rfl
  obtain ⟨iu, hiu⟩ : ∃ i, Tryz.prog.info? 5 = some i := by
    have h : (Tryz.prog.info? 5).isSome = true := by kernel_rfl
    exact Option.isSome_iff_exists.1 h
  have HIU := Lib.hid hiu
  obtain ⟨w0, hw0⟩ : ∃ x, x = (w.alloc (.cells (HC s 0 (.slice a 0 c)).toArray 215)).alloc (.cells z10.toArray 215) := ⟨_, rfl⟩
  have HA : Hid (Blk w0 w.heap.size (HC s 0 (.slice a 0 c)) 215) := by rw [hw0]; exact Lib.hid ((Blk.new w _ _).alloc _)
  have HZ : Hid (Blk w0 (w.heap.size + 1) z10 215) := by
    rw [hw0]
    have h := Blk.new (w.alloc (.cells (HC s 0 (.slice a 0 c)).toArray 215)) z10 215
    rw [World.size_alloc] at h
    exact Lib.hid h
  have HG : Hid (Chg w w0 []) := by rw [hw0]; exact Lib.hid (((Chg.refl w []).alloc _).alloc _)
  rw [z10_arr] at hw0
  have HW := Lib.hid hw0
  clear hw0 hiu
  go_enter Tryz.func133, Tryz.ntmps133
  go_upto_region 1 with (fail)
  rw [← HW.out]
  obtain ⟨X, hX⟩ : ∃ X, X = w.heap.size := ⟨_, rfl⟩
  rw [← hX] at HA HZ ⊢
  have HX := Lib.hid hX
  have ca : w0.cell? ⟨X, 9, none⟩ = some (.slice a 0 c) := by rw [HA.out.cell]; rfl
  have fa : ∀ j, w0.frozen? ⟨X, j, none⟩ = false := fun j => HA.out.frozen j
  have la := HA.out.lt
  have lz := HZ.out.lt
  clear hX
  go_upto_region 2 with (first
    | (refine wpList_append_void rfl _ _ _ rfl 5 iu Tryz.underlying90 HIU.out (some ⟨w0.heap.size, 0, none⟩) 0 0 (Nat.le_refl _) (by rfl) a c (by rfl) ?_))
  clear ca fa
  obtain ⟨rv, hrv⟩ : ∃ rv, rv = w0.heap.size := ⟨_, rfl⟩
  rw [← hrv] at lz la ⊢
  obtain ⟨w2, hw2⟩ : ∃ x, x = (w0.setCell ⟨X, 9, none⟩ (.slice (some ⟨rv, 0, none⟩) 0 0)).alloc (.cells #[] 5) := ⟨_, rfl⟩
  have HA2 : Hid (Blk w2 X (HC s 0 (.slice (some ⟨rv, 0, none⟩) 0 0)) 215) := by rw [hw2]; exact Lib.hid ((HA.out.set 9 _).alloc _)
  have HZ2 : Hid (Blk w2 (X + 1) z10 215) := by rw [hw2]; exact Lib.hid ((HZ.out.set_other _ _ (by simp)).alloc _)
  have HG2 : Hid (Chg w w2 []) := by rw [hw2]; exact Lib.hid ((HG.out.setCell _ _ (by rw [HX.out]; simp)).alloc _)
  have HL2 : Hid (Lst w2 (.slice (some ⟨rv, 0, none⟩) 0 0) 5 []) := by
    rw [hw2, hrv]
    have h := Lst.lit (w0.setCell ⟨X, 9, none⟩ (.slice (some ⟨w0.heap.size, 0, none⟩) 0 0)) [] 5 0 rfl (Nat.zero_le _)
    rw [show (w0.setCell ⟨X, 9, none⟩ (.slice (some ⟨w0.heap.size, 0, none⟩) 0 0)).heap.size = w0.heap.size from by simp] at h
    exact Lib.hid h
  rw [← hw2]
  clear hw2 HA HZ HG hrv
  go_wp2_with (first
    | (refine wpList_load_blk rfl _ _ rfl X rfl 215 (HC s 0 (.slice (some ⟨rv, 0, none⟩) 0 0)) HA2.out _ Tryz.underlying215 rfl info_rh ?_)
    | (refine wpList_store_blk rfl _ _ _ rfl (X + 1) (HC s 0 (.slice (some ⟨rv, 0, none⟩) 0 0)) rfl rfl 215 z10 HZ2.out info_rh rfl (HC_one _ _ _ _ _) ?_; intro w6 hz6 hB6 hg6))
  exact bodyPost_ret (results_blk rfl _ _ (X + 1) 215 (HC s 0 (.slice (some ⟨rv, 0, none⟩) 0 0)) _ rfl hB6 Tryz.underlying215 rfl info_rh) rfl ⟨_, rfl, by rw [← HX.out]; omega, HL2.out.kept hg6 (by simp [Value.ownBlock]; omega), HG2.out.fresh hg6 (by rw [HX.out]; simp)⟩

set_option maxRecDepth 100000 in
set_option maxHeartbeats 4000000 in
theorem r2_Len (s : Sha.St) (a : Option Addr) (c : Nat) (w : World) :
    Calls Tryz.prog 136 #[.agg (HC s 0 (.slice a 0 c)).toArray] w fun e w' => e = .returned (.int .u64 0) ∧ Chg w w' [] := by
  have hcb : (Value.agg (HC s 0 (.slice a 0 c)).toArray).cells = (HC s 0 (.slice a 0 c)).toArray := rfl
  have hB0 := Blk.new w (HC s 0 (.slice a 0 c)) 215
  have c9 : (w.alloc (.cells (HC s 0 (.slice a 0 c)).toArray 215)).cell? ⟨w.heap.size, 9, none⟩ = some (.slice a 0 c) := by rw [hB0.cell]; rfl
  have c8 : (w.alloc (.cells (HC s 0 (.slice a 0 c)).toArray 215)).cell? ⟨w.heap.size, 8, none⟩ = some (.int .u64 0) := by rw [hB0.cell]; rfl
  clear hB0
  go_enter Tryz.func136, Tryz.ntmps136
  go_wp2_with fail
  go_ret
  exact ⟨rfl, (Chg.refl w []).alloc _⟩

/-- what a row of the pad holds so far -/
theorem bCells_take_succ {k : Nat} (h : k < 64) : Sha.bCells.take (k + 1) = Sha.bCells.take k ++ [.int .u8 (Sha.bv k)] := by
  rw [List.take_add_one, Sha.bCells_get h]; rfl
theorem bCells_len : Sha.bCells.length = 64 := by simp [Sha.bCells]
theorem bCells_take_len {k : Nat} (h : k ≤ 64) : (Sha.bCells.take k).length = k := by rw [List.length_take, bCells_len]; omega

set_option maxRecDepth 100000 in
set_option maxHeartbeats 4000000 in
theorem r2_Pad (w : World) :
    Calls Tryz.prog 135 #[.int .u64 0] w fun e w' => ∃ g cap, e = .returned (.slice (some ⟨g, 0, none⟩) 64 cap) ∧ Lst w' (.slice (some ⟨g, 0, none⟩) 64 cap) 5 Sha.bCells ∧ Chg w w' [] := by
  go_enter Tryz.func135, Tryz.ntmps135
  go_wp2_with fail
  have HL0 : Hid (Lst (w.alloc (.cells #[.int .u8 128] 5)) (.slice (some ⟨w.heap.size, 0, none⟩) 1 1) 5 (Sha.bCells.take 1)) := Lib.hid (Lst.lit w [.int .u8 128] 5 1 rfl (by unfold maxLen; omega))
  go_loopw [3] (fun v wr => ∃ k g cap : Nat, 1 ≤ k ∧ k ≤ 56 ∧ v = .slice (some ⟨g, 0, none⟩) k cap ∧ Lst wr (.slice (some ⟨g, 0, none⟩) k cap) 5 (Sha.bCells.take k) ∧ Chg w wr [] ∧ w.heap.size ≤ g)
    (fun v _ => match v with | .slice _ n _ => 56 - n | _ => 0)
  case atStart => exact ⟨1, _, _, by omega, by omega, rfl, HL0.out, (Chg.refl w []).alloc _, Nat.le_refl _⟩
  case round =>
    clear HL0
    obtain ⟨wa, rfl⟩ : ∃ x, x = wr := ⟨_, rfl⟩
    obtain ⟨k, g, cap, hk1, hk2, rfl, hL, hg, ho⟩ := hrel
    have HL := Lib.hid hL
    have HG := Lib.hid hg
    have HLN : Hid ((Sha.bCells.take k).length = k) := Lib.hid (bCells_take_len (by omega))
    clear hL hg
    by_cases hlt : k < 56
    · have HT : Hid (Sha.bCells.take (k + 1) = Sha.bCells.take k ++ [.int .u8 0]) := by
        have := bCells_take_succ (k := k) (by omega)
        rw [show Sha.bv k = 0 from by unfold Sha.bv; rw [if_neg (by omega)]] at this
        exact Lib.hid this
      go_wp2_with (first
        | (at_builtin; refine wpList_append1 rfl _ _ _ rfl 5 (.int .u8 0) 1 Tryz.underlying90 info_byte rfl (.slice (some ⟨g, 0, none⟩) k cap) (Sha.bCells.take k) (by rfl) (by exact HL.out.kept (bs := []) (by (repeat (first | exact Chg.refl _ _ | with_reducible refine Chg.drewN ?_ _ | with_reducible refine Chg.drew ?_ | with_reducible refine Chg.alloc ?_ _ | with_reducible refine Chg.setCell ?_ _ _ (by simp) | with_reducible refine Chg.setCell ?_ _ _ (by simp; omega)))) (by simp)) wa.heap.size (.int .u8 0) (by rfl) (by exact cell_new (by simp) _ _) rfl (by rw [HLN.out]; omega) (by rw [HLN.out]; omega) ?_; rw [HLN.out]; intro g2 cap2 w3 hL3 hC3 hG3; have HL3 := Lib.hid hL3; have HC3 := Lib.hid hC3; have HG3 := Lib.hid hG3; clear hL3 hC3 hG3))
      go_roundw
      case rel =>
        have G1 := HG.out
        have hsz := HG.out.size
        refine ⟨k + 1, g2, cap2, by omega, by omega, rfl, by rw [HT.out]; exact HL3.out, Chg.own (sv := .slice none 0 0) (by (repeat (first | exact G1 | with_reducible refine Chg.drewN ?_ _ | with_reducible refine Chg.drew ?_ | with_reducible refine Chg.alloc ?_ _ | with_reducible refine Chg.setCell ?_ _ _ (by simp) | with_reducible refine Chg.setCell ?_ _ _ (by simp; omega)))) HC3.out (fun g hg => by cases hg) (fun g' hg' => .inr (by simp [Value.ownBlock] at hg'; omega)), ?_⟩
        rcases HG3.out with h | h
        · simp [Value.ownBlock] at h; omega
        · simp at h; omega
      case measure => simp; omega
    · obtain rfl : k = 56 := by omega
      clear HLN
      go_wp2_with fail
      go_loopw [3, 4] (fun v i wr => ∃ j g cap : Nat, j ≤ 8 ∧ i = .int .i64 (56 - 8 * (j : Int)) ∧ v = .slice (some ⟨g, 0, none⟩) (56 + j) cap ∧ Lst wr (.slice (some ⟨g, 0, none⟩) (56 + j) cap) 5 (Sha.bCells.take (56 + j)) ∧ Chg w wr [] ∧ w.heap.size ≤ g)
        (fun _ i _ => (intOf i + 8).toNat)
      case atStart => exact ⟨0, g, cap, by omega, rfl, rfl, HL.out, HG.out, ho⟩
      case round =>
        clear HL HG ho
        obtain ⟨wa, rfl⟩ : ∃ x, x = wr := ⟨_, rfl⟩
        obtain ⟨j, g, cap, hj, rfl, rfl, hL, hg, ho⟩ := hrel
        have HL := Lib.hid hL
        have HG := Lib.hid hg
        have HLN : Hid ((Sha.bCells.take (56 + j)).length = 56 + j) := Lib.hid (bCells_take_len (by omega))
        clear hL hg
        by_cases hlt : j < 8
        · have HT : Hid (Sha.bCells.take (56 + j + 1) = Sha.bCells.take (56 + j) ++ [.int .u8 0]) := by
            have := bCells_take_succ (k := 56 + j) (by omega)
            rw [show Sha.bv (56 + j) = 0 from by unfold Sha.bv; rw [if_neg (by omega)]] at this
            exact Lib.hid this
          have : j = 0 ∨ j = 1 ∨ j = 2 ∨ j = 3 ∨ j = 4 ∨ j = 5 ∨ j = 6 ∨ j = 7 := by omega
          rcases this with rfl | rfl | rfl | rfl | rfl | rfl | rfl | rfl
          · clear hj hlt
            rw [show (56 : Int) - 8 * ((0 : Nat) : Int) = 56 from by omega]
            rw [show 56 + 0 = 56 from rfl] at *
            go_wp2_with (first
              | (at_builtin; refine wpList_append1 rfl _ _ _ rfl 5 (.int .u8 0) 1 Tryz.underlying90 info_byte rfl (.slice (some ⟨g, 0, none⟩) 56 cap) (Sha.bCells.take 56) (by rfl) (by exact HL.out.kept (bs := []) (by (repeat (first | exact Chg.refl _ _ | with_reducible refine Chg.drewN ?_ _ | with_reducible refine Chg.drew ?_ | with_reducible refine Chg.alloc ?_ _ | with_reducible refine Chg.setCell ?_ _ _ (by simp) | with_reducible refine Chg.setCell ?_ _ _ (by simp; omega)))) (by simp)) wa.heap.size (.int .u8 0) (by rfl) (by exact cell_new (by simp) _ _) rfl (by rw [HLN.out]; omega) (by rw [HLN.out]; omega) ?_; rw [HLN.out]; intro g2 cap2 w3 hL3 hC3 hG3; have HL3 := Lib.hid hL3; have HC3 := Lib.hid hC3; have HG3 := Lib.hid hG3; clear hL3 hC3 hG3))
            go_roundw
            case rel =>
              have G1 := HG.out
              have hsz := HG.out.size
              refine ⟨0 + 1, g2, cap2, by omega, rfl, rfl, ?_, Chg.own (sv := .slice none 0 0) (by (repeat (first | exact G1 | with_reducible refine Chg.drewN ?_ _ | with_reducible refine Chg.drew ?_ | with_reducible refine Chg.alloc ?_ _ | with_reducible refine Chg.setCell ?_ _ _ (by simp) | with_reducible refine Chg.setCell ?_ _ _ (by simp; omega)))) HC3.out (fun g hg => by cases hg) (fun g' hg' => .inr (by simp [Value.ownBlock] at hg'; omega)), ?_⟩
              · have h := HL3.out
                rw [← HT.out] at h
                exact h
              · rcases HG3.out with h | h
                · simp [Value.ownBlock] at h; omega
                · simp at h; omega
            case measure => simp [intOf]
          · clear hj hlt
            rw [show (56 : Int) - 8 * ((1 : Nat) : Int) = 48 from by omega]
            rw [show 56 + 1 = 57 from rfl] at *
            go_wp2_with (first
              | (at_builtin; refine wpList_append1 rfl _ _ _ rfl 5 (.int .u8 0) 1 Tryz.underlying90 info_byte rfl (.slice (some ⟨g, 0, none⟩) 57 cap) (Sha.bCells.take 57) (by rfl) (by exact HL.out.kept (bs := []) (by (repeat (first | exact Chg.refl _ _ | with_reducible refine Chg.drewN ?_ _ | with_reducible refine Chg.drew ?_ | with_reducible refine Chg.alloc ?_ _ | with_reducible refine Chg.setCell ?_ _ _ (by simp) | with_reducible refine Chg.setCell ?_ _ _ (by simp; omega)))) (by simp)) wa.heap.size (.int .u8 0) (by rfl) (by exact cell_new (by simp) _ _) rfl (by rw [HLN.out]; omega) (by rw [HLN.out]; omega) ?_; rw [HLN.out]; intro g2 cap2 w3 hL3 hC3 hG3; have HL3 := Lib.hid hL3; have HC3 := Lib.hid hC3; have HG3 := Lib.hid hG3; clear hL3 hC3 hG3))
            go_roundw
            case rel =>
              have G1 := HG.out
              have hsz := HG.out.size
              refine ⟨1 + 1, g2, cap2, by omega, rfl, rfl, ?_, Chg.own (sv := .slice none 0 0) (by (repeat (first | exact G1 | with_reducible refine Chg.drewN ?_ _ | with_reducible refine Chg.drew ?_ | with_reducible refine Chg.alloc ?_ _ | with_reducible refine Chg.setCell ?_ _ _ (by simp) | with_reducible refine Chg.setCell ?_ _ _ (by simp; omega)))) HC3.out (fun g hg => by cases hg) (fun g' hg' => .inr (by simp [Value.ownBlock] at hg'; omega)), ?_⟩
              · have h := HL3.out
                rw [← HT.out] at h
                exact h
              · rcases HG3.out with h | h
                · simp [Value.ownBlock] at h; omega
                · simp at h; omega
            case measure => simp [intOf]
          · clear hj hlt
            rw [show (56 : Int) - 8 * ((2 : Nat) : Int) = 40 from by omega]
            rw [show 56 + 2 = 58 from rfl] at *
            go_wp2_with (first
              | (at_builtin; refine wpList_append1 rfl _ _ _ rfl 5 (.int .u8 0) 1 Tryz.underlying90 info_byte rfl (.slice (some ⟨g, 0, none⟩) 58 cap) (Sha.bCells.take 58) (by rfl) (by exact HL.out.kept (bs := []) (by (repeat (first | exact Chg.refl _ _ | with_reducible refine Chg.drewN ?_ _ | with_reducible refine Chg.drew ?_ | with_reducible refine Chg.alloc ?_ _ | with_reducible refine Chg.setCell ?_ _ _ (by simp) | with_reducible refine Chg.setCell ?_ _ _ (by simp; omega)))) (by simp)) wa.heap.size (.int .u8 0) (by rfl) (by exact cell_new (by simp) _ _) rfl (by rw [HLN.out]; omega) (by rw [HLN.out]; omega) ?_; rw [HLN.out]; intro g2 cap2 w3 hL3 hC3 hG3; have HL3 := Lib.hid hL3; have HC3 := Lib.hid hC3; have HG3 := Lib.hid hG3; clear hL3 hC3 hG3))
            go_roundw
            case rel =>
              have G1 := HG.out
              have hsz := HG.out.size
              refine ⟨2 + 1, g2, cap2, by omega, rfl, rfl, ?_, Chg.own (sv := .slice none 0 0) (by (repeat (first | exact G1 | with_reducible refine Chg.drewN ?_ _ | with_reducible refine Chg.drew ?_ | with_reducible refine Chg.alloc ?_ _ | with_reducible refine Chg.setCell ?_ _ _ (by simp) | with_reducible refine Chg.setCell ?_ _ _ (by simp; omega)))) HC3.out (fun g hg => by cases hg) (fun g' hg' => .inr (by simp [Value.ownBlock] at hg'; omega)), ?_⟩
              · have h := HL3.out
                rw [← HT.out] at h
                exact h
              · rcases HG3.out with h | h
                · simp [Value.ownBlock] at h; omega
                · simp at h; omega
            case measure => simp [intOf]
          · clear hj hlt
            rw [show (56 : Int) - 8 * ((3 : Nat) : Int) = 32 from by omega]
            rw [show 56 + 3 = 59 from rfl] at *
            go_wp2_with (first
              | (at_builtin; refine wpList_append1 rfl _ _ _ rfl 5 (.int .u8 0) 1 Tryz.underlying90 info_byte rfl (.slice (some ⟨g, 0, none⟩) 59 cap) (Sha.bCells.take 59) (by rfl) (by exact HL.out.kept (bs := []) (by (repeat (first | exact Chg.refl _ _ | with_reducible refine Chg.drewN ?_ _ | with_reducible refine Chg.drew ?_ | with_reducible refine Chg.alloc ?_ _ | with_reducible refine Chg.setCell ?_ _ _ (by simp) | with_reducible refine Chg.setCell ?_ _ _ (by simp; omega)))) (by simp)) wa.heap.size (.int .u8 0) (by rfl) (by exact cell_new (by simp) _ _) rfl (by rw [HLN.out]; omega) (by rw [HLN.out]; omega) ?_; rw [HLN.out]; intro g2 cap2 w3 hL3 hC3 hG3; have HL3 := Lib.hid hL3; have HC3 := Lib.hid hC3; have HG3 := Lib.hid hG3; clear hL3 hC3 hG3))
            go_roundw
            case rel =>
              have G1 := HG.out
              have hsz := HG.out.size
              refine ⟨3 + 1, g2, cap2, by omega, rfl, rfl, ?_, Chg.own (sv := .slice none 0 0) (by (repeat (first | exact G1 | with_reducible refine Chg.drewN ?_ _ | with_reducible refine Chg.drew ?_ | with_reducible refine Chg.alloc ?_ _ | with_reducible refine Chg.setCell ?_ _ _ (by simp) | with_reducible refine Chg.setCell ?_ _ _ (by simp; omega)))) HC3.out (fun g hg => by cases hg) (fun g' hg' => .inr (by simp [Value.ownBlock] at hg'; omega)), ?_⟩
              · have h := HL3.out
                rw [← HT.out] at h
                exact h
              · rcases HG3.out with h | h
                · simp [Value.ownBlock] at h; omega
                · simp at h; omega
            case measure => simp [intOf]
          · clear hj hlt
            rw [show (56 : Int) - 8 * ((4 : Nat) : Int) = 24 from by omega]
            rw [show 56 + 4 = 60 from rfl] at *
            go_wp2_with (first
              | (at_builtin; refine wpList_append1 rfl _ _ _ rfl 5 (.int .u8 0) 1 Tryz.underlying90 info_byte rfl (.slice (some ⟨g, 0, none⟩) 60 cap) (Sha.bCells.take 60) (by rfl) (by exact HL.out.kept (bs := []) (by (repeat (first | exact Chg.refl _ _ | with_reducible refine Chg.drewN ?_ _ | with_reducible refine Chg.drew ?_ | with_reducible refine Chg.alloc ?_ _ | with_reducible refine Chg.setCell ?_ _ _ (by simp) | with_reducible refine Chg.setCell ?_ _ _ (by simp; omega)))) (by simp)) wa.heap.size (.int .u8 0) (by rfl) (by exact cell_new (by simp) _ _) rfl (by rw [HLN.out]; omega) (by rw [HLN.out]; omega) ?_; rw [HLN.out]; intro g2 cap2 w3 hL3 hC3 hG3; have HL3 := Lib.hid hL3; have HC3 := Lib.hid hC3; have HG3 := Lib.hid hG3; clear hL3 hC3 hG3))
            go_roundw
            case rel =>
              have G1 := HG.out
              have hsz := HG.out.size
              refine ⟨4 + 1, g2, cap2, by omega, rfl, rfl, ?_, Chg.own (sv := .slice none 0 0) (by (repeat (first | exact G1 | with_reducible refine Chg.drewN ?_ _ | with_reducible refine Chg.drew ?_ | with_reducible refine Chg.alloc ?_ _ | with_reducible refine Chg.setCell ?_ _ _ (by simp) | with_reducible refine Chg.setCell ?_ _ _ (by simp; omega)))) HC3.out (fun g hg => by cases hg) (fun g' hg' => .inr (by simp [Value.ownBlock] at hg'; omega)), ?_⟩
              · have h := HL3.out
                rw [← HT.out] at h
                exact h
              · rcases HG3.out with h | h
                · simp [Value.ownBlock] at h; omega
                · simp at h; omega
            case measure => simp [intOf]
          · clear hj hlt
            rw [show (56 : Int) - 8 * ((5 : Nat) : Int) = 16 from by omega]
            rw [show 56 + 5 = 61 from rfl] at *
            go_wp2_with (first
              | (at_builtin; refine wpList_append1 rfl _ _ _ rfl 5 (.int .u8 0) 1 Tryz.underlying90 info_byte rfl (.slice (some ⟨g, 0, none⟩) 61 cap) (Sha.bCells.take 61) (by rfl) (by exact HL.out.kept (bs := []) (by (repeat (first | exact Chg.refl _ _ | with_reducible refine Chg.drewN ?_ _ | with_reducible refine Chg.drew ?_ | with_reducible refine Chg.alloc ?_ _ | with_reducible refine Chg.setCell ?_ _ _ (by simp) | with_reducible refine Chg.setCell ?_ _ _ (by simp; omega)))) (by simp)) wa.heap.size (.int .u8 0) (by rfl) (by exact cell_new (by simp) _ _) rfl (by rw [HLN.out]; omega) (by rw [HLN.out]; omega) ?_; rw [HLN.out]; intro g2 cap2 w3 hL3 hC3 hG3; have HL3 := Lib.hid hL3; have HC3 := Lib.hid hC3; have HG3 := Lib.hid hG3; clear hL3 hC3 hG3))
            go_roundw
            case rel =>
              have G1 := HG.out
              have hsz := HG.out.size
              refine ⟨5 + 1, g2, cap2, by omega, rfl, rfl, ?_, Chg.own (sv := .slice none 0 0) (by (repeat (first | exact G1 | with_reducible refine Chg.drewN ?_ _ | with_reducible refine Chg.drew ?_ | with_reducible refine Chg.alloc ?_ _ | with_reducible refine Chg.setCell ?_ _ _ (by simp) | with_reducible refine Chg.setCell ?_ _ _ (by simp; omega)))) HC3.out (fun g hg => by cases hg) (fun g' hg' => .inr (by simp [Value.ownBlock] at hg'; omega)), ?_⟩
              · have h := HL3.out
                rw [← HT.out] at h
                exact h
              · rcases HG3.out with h | h
                · simp [Value.ownBlock] at h; omega
                · simp at h; omega
            case measure => simp [intOf]
          · clear hj hlt
            rw [show (56 : Int) - 8 * ((6 : Nat) : Int) = 8 from by omega]
            rw [show 56 + 6 = 62 from rfl] at *
            go_wp2_with (first
              | (at_builtin; refine wpList_append1 rfl _ _ _ rfl 5 (.int .u8 0) 1 Tryz.underlying90 info_byte rfl (.slice (some ⟨g, 0, none⟩) 62 cap) (Sha.bCells.take 62) (by rfl) (by exact HL.out.kept (bs := []) (by (repeat (first | exact Chg.refl _ _ | with_reducible refine Chg.drewN ?_ _ | with_reducible refine Chg.drew ?_ | with_reducible refine Chg.alloc ?_ _ | with_reducible refine Chg.setCell ?_ _ _ (by simp) | with_reducible refine Chg.setCell ?_ _ _ (by simp; omega)))) (by simp)) wa.heap.size (.int .u8 0) (by rfl) (by exact cell_new (by simp) _ _) rfl (by rw [HLN.out]; omega) (by rw [HLN.out]; omega) ?_; rw [HLN.out]; intro g2 cap2 w3 hL3 hC3 hG3; have HL3 := Lib.hid hL3; have HC3 := Lib.hid hC3; have HG3 := Lib.hid hG3; clear hL3 hC3 hG3))
            go_roundw
            case rel =>
              have G1 := HG.out
              have hsz := HG.out.size
              refine ⟨6 + 1, g2, cap2, by omega, rfl, rfl, ?_, Chg.own (sv := .slice none 0 0) (by (repeat (first | exact G1 | with_reducible refine Chg.drewN ?_ _ | with_reducible refine Chg.drew ?_ | with_reducible refine Chg.alloc ?_ _ | with_reducible refine Chg.setCell ?_ _ _ (by simp) | with_reducible refine Chg.setCell ?_ _ _ (by simp; omega)))) HC3.out (fun g hg => by cases hg) (fun g' hg' => .inr (by simp [Value.ownBlock] at hg'; omega)), ?_⟩
              · have h := HL3.out
                rw [← HT.out] at h
                exact h
              · rcases HG3.out with h | h
                · simp [Value.ownBlock] at h; omega
                · simp at h; omega
            case measure => simp [intOf]
          · clear hj hlt
            rw [show (56 : Int) - 8 * ((7 : Nat) : Int) = 0 from by omega]
            rw [show 56 + 7 = 63 from rfl] at *
            go_wp2_with (first
              | (at_builtin; refine wpList_append1 rfl _ _ _ rfl 5 (.int .u8 0) 1 Tryz.underlying90 info_byte rfl (.slice (some ⟨g, 0, none⟩) 63 cap) (Sha.bCells.take 63) (by rfl) (by exact HL.out.kept (bs := []) (by (repeat (first | exact Chg.refl _ _ | with_reducible refine Chg.drewN ?_ _ | with_reducible refine Chg.drew ?_ | with_reducible refine Chg.alloc ?_ _ | with_reducible refine Chg.setCell ?_ _ _ (by simp) | with_reducible refine Chg.setCell ?_ _ _ (by simp; omega)))) (by simp)) wa.heap.size (.int .u8 0) (by rfl) (by exact cell_new (by simp) _ _) rfl (by rw [HLN.out]; omega) (by rw [HLN.out]; omega) ?_; rw [HLN.out]; intro g2 cap2 w3 hL3 hC3 hG3; have HL3 := Lib.hid hL3; have HC3 := Lib.hid hC3; have HG3 := Lib.hid hG3; clear hL3 hC3 hG3))
            go_roundw
            case rel =>
              have G1 := HG.out
              have hsz := HG.out.size
              refine ⟨7 + 1, g2, cap2, by omega, rfl, rfl, ?_, Chg.own (sv := .slice none 0 0) (by (repeat (first | exact G1 | with_reducible refine Chg.drewN ?_ _ | with_reducible refine Chg.drew ?_ | with_reducible refine Chg.alloc ?_ _ | with_reducible refine Chg.setCell ?_ _ _ (by simp) | with_reducible refine Chg.setCell ?_ _ _ (by simp; omega)))) HC3.out (fun g hg => by cases hg) (fun g' hg' => .inr (by simp [Value.ownBlock] at hg'; omega)), ?_⟩
              · have h := HL3.out
                rw [← HT.out] at h
                exact h
              · rcases HG3.out with h | h
                · simp [Value.ownBlock] at h; omega
                · simp at h; omega
            case measure => simp [intOf]
        · obtain rfl : j = 8 := by omega
          go_wp2_with fail
          go_ret
          have h := HL.out
          rw [show Sha.bCells.take (56 + 8) = Sha.bCells from by rw [List.take_of_length_le (by rw [bCells_len]; omega)]] at h
          exact ⟨g, cap, rfl, h, HG.out⟩
end Go.Proofs.YtfdhgakalojahaaGreatDoor

namespace Go.Proofs.YtfdhgakalojahaaGreatDoor
open Go Go.RowKit

theorem info_64 : (Tryz.prog.info? 223).map (·.size) = some 64 := by kernel_rfl

/-- the hash's memory behind the copy -/
structure WS (w wr : World) (s : Sha.St) (n : Int) (rest : Value) : Prop where
  chg : Chg w wr []
  bH : Blk wr w.heap.size (HC s n rest) 215
  bR : Blk wr (w.heap.size + 1) z10 215

theorem WS.kept {w wr wr' : World} {s : Sha.St} {n : Int} {rest : Value} {bs : List Nat} (h : WS w wr s n rest) (hg : Chg wr wr' bs) (hb : ∀ k, k ∈ bs → w.heap.size + 2 ≤ k) : WS w wr' s n rest :=
  ⟨h.chg.step hg (fun i hi hl => absurd (hb i hi) (by omega)), h.bH.kept hg (fun hm => absurd (hb _ hm) (by omega)), h.bR.kept hg (fun hm => absurd (hb _ hm) (by omega))⟩

theorem WS.alloc {w wr : World} {s : Sha.St} {n : Int} {rest : Value} (h : WS w wr s n rest) (o : Obj) : WS w (wr.alloc o) s n rest := ⟨h.chg.alloc o, h.bH.alloc o, h.bR.alloc o⟩
theorem WS.drew {w wr : World} {s : Sha.St} {n : Int} {rest : Value} (h : WS w wr s n rest) : WS w wr.drew s n rest := ⟨h.chg.drew, h.bH.drew, h.bR.drew⟩
theorem WS.rest {w wr : World} {s : Sha.St} {n : Int} {rest : Value} (h : WS w wr s n rest) (r : Value) : WS w (wr.setCell ⟨w.heap.size, 9, none⟩ r) s n r :=
  ⟨h.chg.setCell _ _ (by simp), h.bH.set 9 r, h.bR.set_other _ _ (by simp)⟩
theorem WS.far {w wr : World} {s : Sha.St} {n : Int} {rest : Value} (h : WS w wr s n rest) (p : Addr) (v : Value) (hp : w.heap.size + 2 ≤ p.block) : WS w (wr.setCell p v) s n rest :=
  ⟨h.chg.setCell _ _ (by omega), h.bH.set_other _ _ (by omega), h.bR.set_other _ _ (by omega)⟩

def WritePost0 (s : Sha.St) (w : World) (e : Ending) (w' : World) : Prop := ∃ a' c', e = .returned (.agg (HC s 0 (.slice a' 0 c')).toArray) ∧ Chg w w' []

set_option maxRecDepth 100000 in
set_option maxHeartbeats 4000000 in
theorem r2_Write0 (s : Sha.St) (a ab : Option Addr) (c cb : Nat) (w : World) :
    Calls Tryz.prog 113 #[.agg (HC s 0 (.slice a 0 c)).toArray, .slice ab 0 cb] w (WritePost0 s w) := by
  have hcb : (Value.agg (HC s 0 (.slice a 0 c)).toArray).cells = (HC s 0 (.slice a 0 c)).toArray := rfl
  obtain ⟨w0, hw0⟩ : ∃ x, x = (w.alloc (.cells (HC s 0 (.slice a 0 c)).toArray 215)).alloc (.cells z10.toArray 215) := ⟨_, rfl⟩
  have HS0 : Hid (WS w w0 s 0 (.slice a 0 c)) := by
    rw [hw0]
    have h := Blk.new (w.alloc (.cells (HC s 0 (.slice a 0 c)).toArray 215)) z10 215
    rw [World.size_alloc] at h
    exact Lib.hid ⟨((Chg.refl w []).alloc _).alloc _, (Blk.new w _ _).alloc _, h⟩
  rw [z10_arr] at hw0
  have HW := Lib.hid hw0
  clear hw0
  go_enter Tryz.func113, Tryz.ntmps113
  go_upto_region 1 with (fail)
  rw [← HW.out]
  go_wp2_with (first
    | (refine wpList_load_blk rfl _ _ rfl w.heap.size rfl 215 (HC s 0 (.slice a 0 c)) HS0.out.bH _ Tryz.underlying215 rfl info_rh ?_)
    | (go_at_call 133; ((with_reducible refine (r2_Copy _ _ _ _).mono ?_); rintro e w1 ⟨g1, rfl, _, _, hg1⟩; have HS1 := Lib.hid (HS0.out.kept hg1 (by simp)); clear hg1))
    | (refine wpList_store_blk rfl _ _ _ rfl w.heap.size (HC s 0 (.slice (some ⟨g1, 0, none⟩) 0 0)) rfl rfl 215 (HC s 0 (.slice a 0 c)) HS1.out.bH info_rh rfl (HC_one _ _ _ _ _) ?_; intro w2 hz2 hB2 hg2))
  have HS2 : Hid (WS w w2 s 0 (.slice (some ⟨g1, 0, none⟩) 0 0)) := Lib.hid ⟨HS1.out.chg.fresh hg2 (by simp), hB2, HS1.out.bR.kept hg2 (by simp)⟩
  clear hB2 hg2 hz2 HS0 HS1
  refine wp_loop_rounds 1 ?_
  rw [rounds_succ]
  go_wp2_with (first
    | (refine wpList_load_blk rfl _ _ rfl w.heap.size rfl 215 (HC s 0 (.slice (some ⟨g1, 0, none⟩) 0 0)) HS2.out.bH _ Tryz.underlying215 rfl info_rh ?_)
    | (refine wpList_store_blk rfl _ _ _ rfl (w.heap.size + 1) (HC s 0 (.slice (some ⟨g1, 0, none⟩) 0 0)) rfl rfl 215 z10 HS2.out.bR info_rh rfl (HC_one _ _ _ _ _) ?_; intro w6 hz6 hB6 hg6))
  exact bodyPost_ret (results_blk rfl _ _ (w.heap.size + 1) 215 (HC s 0 (.slice (some ⟨g1, 0, none⟩) 0 0)) _ rfl hB6 Tryz.underlying215 rfl info_rh) rfl ⟨_, _, rfl, HS2.out.chg.fresh hg6 (by simp)⟩
end Go.Proofs.YtfdhgakalojahaaGreatDoor

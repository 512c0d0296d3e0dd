/- WALKS: the program's layer 2: the digest of nothing. WALKS: the program's layer 2: one whole block written. WALKS: the program's layer 2: the digest of a hash to which nothing was written. -/
import Derived.LoopN
import Derived.Deep.RegionWith
import Derived.Test.YtfdhgakalojahaaGreatDoorM12
import Derived.Test.YtfdhgakalojahaaGreatDoorM03
set_option linter.unusedSimpArgs false
set_option linter.unusedVariables false
set_option linter.unnecessarySimpa false
set_option linter.unusedSectionVars false
namespace Go.Proofs.YtfdhgakalojahaaGreatDoor
open Go Go.RowKit

set_option maxRecDepth 100000 in
set_option maxHeartbeats 4000000 in
theorem sha_pad (w : World) :
    Calls Tryz.prog 124 #[.int .u64 0] w fun e w' => e = .returned (.slice (some ⟨w.heap.size, 0, none⟩) 64 64) ∧ Chg w w' [] ∧ Blk w' w.heap.size Sha.bCells 5 := by
  have hmk : ∀ w, (Instr.makeSlice 90 (.int .u64 64) (.int .u64 64)).run Tryz.prog w = .ok (.slice (some ⟨w.heap.size, 0, none⟩) 64 64) (w.alloc (.cells (List.replicate 64 (.int .u8 0)).toArray 5)) := fun _ => by kernel_rfl
  have HB0 := Lib.hid (Blk.new w Sha.bCells 5)
  go_enter Tryz.func124, Tryz.ntmps124
  go_wp2
  go_loopw [13] (fun v wr => ∃ i : Nat, i ≤ 8 ∧ v = .int .i64 i ∧ Chg w wr [] ∧ Blk wr w.heap.size Sha.bCells 5) (fun v _ => 8 - (intOf v).toNat)
  case atStart => exact ⟨0, by omega, rfl, (Chg.refl w []).alloc _, HB0.out⟩
  case round =>
    clear HB0
    obtain ⟨i, hi, rfl, hg, hB⟩ := hrel
    have hf : ∀ j, wr.frozen? ⟨w.heap.size, j, none⟩ = false := fun j => hB.frozen j
    have hl := hB.lt
    have HG := Lib.hid hg
    have HB := Lib.hid hB
    by_cases hlt : i < 8
    · have hc : wr.cell? ⟨w.heap.size, 63 - i, none⟩ = some (.int .u8 0) := by
        rw [hB.cell, Sha.bCells_get (by omega)]; unfold Sha.bv; rw [if_neg (by omega)]
      have hset : Sha.bCells.set (63 - i) (.int .u8 0) = Sha.bCells := by
        apply List.ext_getElem?
        intro j
        by_cases hj : j < 64
        · rw [List.getElem?_set, Sha.bCells_get hj]
          by_cases h : 63 - i = j
          · subst h; rw [if_pos rfl, if_pos (by simp [Sha.bCells]; omega)]; unfold Sha.bv; rw [if_neg (by omega)]
          · rw [if_neg h]
        · rw [List.getElem?_eq_none (by rw [List.length_set]; simp [Sha.bCells]; omega), List.getElem?_eq_none (by simp [Sha.bCells]; omega)]
      have HS := Lib.hid hset
      clear hg hB hset
      have : i = 0 ∨ i = 1 ∨ i = 2 ∨ i = 3 ∨ i = 4 ∨ i = 5 ∨ i = 6 ∨ i = 7 := by omega
      rcases this with rfl | rfl | rfl | rfl | rfl | rfl | rfl | rfl
      · simp only [Nat.reduceSub] at hc
        go_wp2
        go_roundw
        case rel =>
          refine ⟨1, by omega, rfl, HG.out.setCell _ _ (by simp), ?_⟩
          have h := HB.out.set 63 (.int .u8 0)
          rw [show Sha.bCells.set 63 (.int .u8 0) = Sha.bCells from HS.out] at h
          exact h
        case measure => simp [intOf]
      · simp only [Nat.reduceSub] at hc
        go_wp2
        go_roundw
        case rel =>
          refine ⟨2, by omega, rfl, HG.out.setCell _ _ (by simp), ?_⟩
          have h := HB.out.set 62 (.int .u8 0)
          rw [show Sha.bCells.set 62 (.int .u8 0) = Sha.bCells from HS.out] at h
          exact h
        case measure => simp [intOf]
      · simp only [Nat.reduceSub] at hc
        go_wp2
        go_roundw
        case rel =>
          refine ⟨3, by omega, rfl, HG.out.setCell _ _ (by simp), ?_⟩
          have h := HB.out.set 61 (.int .u8 0)
          rw [show Sha.bCells.set 61 (.int .u8 0) = Sha.bCells from HS.out] at h
          exact h
        case measure => simp [intOf]
      · simp only [Nat.reduceSub] at hc
        go_wp2
        go_roundw
        case rel =>
          refine ⟨4, by omega, rfl, HG.out.setCell _ _ (by simp), ?_⟩
          have h := HB.out.set 60 (.int .u8 0)
          rw [show Sha.bCells.set 60 (.int .u8 0) = Sha.bCells from HS.out] at h
          exact h
        case measure => simp [intOf]
      · simp only [Nat.reduceSub] at hc
        go_wp2
        go_roundw
        case rel =>
          refine ⟨5, by omega, rfl, HG.out.setCell _ _ (by simp), ?_⟩
          have h := HB.out.set 59 (.int .u8 0)
          rw [show Sha.bCells.set 59 (.int .u8 0) = Sha.bCells from HS.out] at h
          exact h
        case measure => simp [intOf]
      · simp only [Nat.reduceSub] at hc
        go_wp2
        go_roundw
        case rel =>
          refine ⟨6, by omega, rfl, HG.out.setCell _ _ (by simp), ?_⟩
          have h := HB.out.set 58 (.int .u8 0)
          rw [show Sha.bCells.set 58 (.int .u8 0) = Sha.bCells from HS.out] at h
          exact h
        case measure => simp [intOf]
      · simp only [Nat.reduceSub] at hc
        go_wp2
        go_roundw
        case rel =>
          refine ⟨7, by omega, rfl, HG.out.setCell _ _ (by simp), ?_⟩
          have h := HB.out.set 57 (.int .u8 0)
          rw [show Sha.bCells.set 57 (.int .u8 0) = Sha.bCells from HS.out] at h
          exact h
        case measure => simp [intOf]
      · simp only [Nat.reduceSub] at hc
        go_wp2
        go_roundw
        case rel =>
          refine ⟨8, by omega, rfl, HG.out.setCell _ _ (by simp), ?_⟩
          have h := HB.out.set 56 (.int .u8 0)
          rw [show Sha.bCells.set 56 (.int .u8 0) = Sha.bCells from HS.out] at h
          exact h
        case measure => simp [intOf]
    · obtain rfl : i = 8 := by omega
      clear hg hB
      go_wp2
      go_ret
      exact ⟨rfl, HG.out, HB.out⟩


theorem clone_byte_empty (a : Addr) (w : World) : Calls Tryz.prog 122 #[.slice (some a) 0 0] w fun e w' => ∃ r, e = .returned (.slice r 0 0) ∧ Chg w w' [] := by
  have hq := fun (wx : World) (a : Option Addr) (n c : Nat) => Lib.run_eql_slice_nil (P := Tryz.prog) wx 90 5 a n c 0 0 Tryz.underlying90
  go_enter Tryz.func122, Tryz.ntmps122
  go_wp2
  go_ret
  exact ⟨_, rfl, (Chg.refl w []).alloc _⟩
end Go.Proofs.YtfdhgakalojahaaGreatDoor

namespace Go.Proofs.YtfdhgakalojahaaGreatDoor
open Go Go.RowKit

set_option maxRecDepth 100000 in
set_option maxHeartbeats 8000000 in
theorem sha_write (K0 : Nat → Int) (b bb : Nat) (f : Sha.St) (w : World) (hB : Blk w b (HC f 0 (.slice none 0 0)) 221) (hb : Blk w bb Sha.bCells 5) (hne : bb ≠ b)
    (hK : ∀ j, j < 64 → w.cell? ⟨2, j, none⟩ = some (.int .u32 (K0 j))) :
    Calls Tryz.prog 97 #[.pointer (some ⟨b, 0, none⟩), .slice (some ⟨bb, 0, none⟩) 64 64] w fun e w' => e = .returned (.tuple #[]) ∧ Chg w w' [b] ∧ ∃ r, Blk w' b (HC (Sha.round K0 f) 1 r) 221 := by
  obtain ⟨a0, a1, a2, a3, a4, a5, a6, a7⟩ := f
  rw [HC.eq] at hB
  have q0 := hB.cell 0
  have q1 := hB.cell 1
  have q2 := hB.cell 2
  have q3 := hB.cell 3
  have q4 := hB.cell 4
  have q5 := hB.cell 5
  have q6 := hB.cell 6
  have q7 := hB.cell 7
  have q8 := hB.cell 8
  have q9 := hB.cell 9
  simp only [List.getElem?_cons_zero, List.getElem?_cons_succ] at q0 q1 q2 q3 q4 q5 q6 q7 q8 q9
  have qf : ∀ j, w.frozen? ⟨b, j, none⟩ = false := fun j => hB.frozen j
  have ql := hB.lt
  have HB := Lib.hid hB
  have Hb := Lib.hid hb
  have HK := Lib.hid hK
  clear hB hb hK
  go_enter Tryz.func97, Tryz.ntmps97
  go_wp2
  refine wp_loop_rounds 2 ?_
  rw [rounds_succ]
  go_wp2
  have harr : ∀ w, (Instr.arrayAt 223 (.slice (some ⟨bb, 0, none⟩) 64 64)).run Tryz.prog w = .ok (.pointer (some ⟨bb, 0, none⟩)) w := fun _ => by kernel_rfl
  have HR : Hid (∀ w', (∀ j, j < 64 → w'.cell? ⟨2, j, none⟩ = some (.int .u32 (K0 j))) → Calls Tryz.prog 121 #[.agg #[.int .u32 a0, .int .u32 a1, .int .u32 a2, .int .u32 a3, .int .u32 a4, .int .u32 a5, .int .u32 a6, .int .u32 a7], .agg Sha.bCells.toArray] w' fun e w'' => e = .returned (.agg (Sha.round K0 ⟨a0, a1, a2, a3, a4, a5, a6, a7⟩).cells.toArray) ∧ Chg w' w'' []) :=
    fun w' h => sha_Round K0 a0 a1 a2 a3 a4 a5 a6 a7 w' h
  refine wp_region_any (by kernel_rfl) ?_
  change wpAny _ _ _ _ _ _ _ (World.drew _)
  refine wpAny_take (i := 0) (v := .pointer (some ⟨b, 0, none⟩)) rfl (by kernel_rfl) (by kernel_rfl) (by kernel_rfl) (fun _ _ _ h => h) (Or.inl ⟨by rfl, by intro w; go_simp⟩) ?_
  refine wpAny_take (i := 1) (v := .pointer (some ⟨b, 0, none⟩)) rfl (by kernel_rfl) (by kernel_rfl) (by kernel_rfl) (fun _ _ _ h => h) (Or.inl ⟨by rfl, by intro w; go_simp⟩) ?_
  refine wpAny_take (i := 2) (v := .pointer (some ⟨b, 0, none⟩)) rfl (by kernel_rfl) (by kernel_rfl) (by kernel_rfl) (fun _ _ _ h => h) (Or.inl ⟨by rfl, by intro w; go_simp⟩) ?_
  refine wpAny_take (i := 3) (v := .pointer (some ⟨b, 0, none⟩)) rfl (by kernel_rfl) (by kernel_rfl) (by kernel_rfl) (fun _ _ _ h => h) (Or.inl ⟨by rfl, by intro w; go_simp⟩) ?_
  refine wpAny_take (i := 5) (v := .slice (some ⟨bb, 0, none⟩) 64 64) rfl (by kernel_rfl) (by kernel_rfl) (by kernel_rfl) (fun _ _ _ h => h) (Or.inl ⟨by rfl, by intro w; go_simp⟩) ?_
  refine wpAny_ready (rs := [4, 6]) (by kernel_rfl) (by simp) (AllReady.cons rfl (fun K hK => ?_) (AllReady.cons rfl (fun K hK => ?_) AllReady.nil))
  · go_simp
    refine hK _ _ ?_
    clear hK K
    refine wpAny_ready (rs := [6]) (by kernel_rfl) (by simp) (AllReady.cons rfl (fun K hK => ?_) AllReady.nil)
    go_simp
    refine hK _ _ ?_
    clear hK K
    refine wpAny_ready (rs := [7]) (by kernel_rfl) (by simp) (AllReady.cons rfl (fun K hK => ?_) AllReady.nil)
    rw [if_pos (by rfl)]
    refine wp_load_row 223 _ rfl bb (by rfl) 5 Sha.bCells.toArray (0, 0) _ Hb.out Tryz.underlying223 rfl (by kernel_rfl) (hK _ _ ?_)
    clear hK K
    refine wpAny_ready (rs := [8]) (by kernel_rfl) (by simp) (AllReady.cons rfl (fun K hK => ?_) AllReady.nil)
    go_simp
    go_at_call 121
    refine (HR.out w.drew (fun j hj => HK.out j hj)).mono ?_
    rintro e w2 ⟨rfl, hg2⟩
    refine hK _ _ ?_
    clear hK K
    obtain ⟨m, hm⟩ : ∃ m, m = Sha.round K0 ⟨a0, a1, a2, a3, a4, a5, a6, a7⟩ := ⟨_, rfl⟩
    rw [← hm]
    have HM := Lib.hid hm
    clear hm
    obtain ⟨c0, c1, c2, c3, c4, c5, c6, c7⟩ := m
    have HB2 := Lib.hid ((HB.out.drew).kept hg2 (by simp))
    have Hb2 := Lib.hid ((Hb.out.drew).kept hg2 (by simp))
    have ql2 := HB2.out.lt
    have qf2 : ∀ j, w2.frozen? ⟨b, j, none⟩ = false := fun j => HB2.out.frozen j
    have HG2 := Lib.hid hg2
    clear hg2
    have qc : (Sha.St.mk c0 c1 c2 c3 c4 c5 c6 c7).cells.toArray = #[.int .u32 c0, .int .u32 c1, .int .u32 c2, .int .u32 c3, .int .u32 c4, .int .u32 c5, .int .u32 c6, .int .u32 c7] := rfl
    rw [qc]
    clear qc
    refine wpAny_take (i := 9) (v := .pointer (some ⟨b, 0, none⟩)) rfl (by kernel_rfl) (by kernel_rfl) (by kernel_rfl) (fun _ _ _ h => h) (Or.inl ⟨by rfl, by intro w; go_simp⟩) ?_
    refine wpAny_take (i := 10) (v := .pointer (some ⟨b, 0, none⟩)) rfl (by kernel_rfl) (by kernel_rfl) (by kernel_rfl) (fun _ _ _ h => h) (Or.inl ⟨by rfl, by intro w; go_simp⟩) ?_
    refine wpAny_ready (rs := [11]) (by kernel_rfl) (by simp) (AllReady.cons rfl (fun K hK => ?_) AllReady.nil)
    have p0 := HB2.out.cell 0
    have p1 := HB2.out.cell 1
    have p2 := HB2.out.cell 2
    have p3 := HB2.out.cell 3
    have p4 := HB2.out.cell 4
    have p5 := HB2.out.cell 5
    have p6 := HB2.out.cell 6
    have p7 := HB2.out.cell 7
    simp only [List.getElem?_cons_zero, List.getElem?_cons_succ] at p0 p1 p2 p3 p4 p5 p6 p7
    go_simp
    refine hK _ _ ?_
    clear hK K
    have HM3 : ∃ w3, w3 = ((((((((w2.setCell ⟨b, 0, none⟩ (.int .u32 c0)).setCell ⟨b, 1, none⟩ (.int .u32 c1)).setCell ⟨b, 2, none⟩ (.int .u32 c2)).setCell ⟨b, 3, none⟩ (.int .u32 c3)).setCell ⟨b, 4, none⟩ (.int .u32 c4)).setCell ⟨b, 5, none⟩ (.int .u32 c5)).setCell ⟨b, 6, none⟩ (.int .u32 c6)).setCell ⟨b, 7, none⟩ (.int .u32 c7)) := ⟨_, rfl⟩
    obtain ⟨w3, hw3⟩ := HM3
    rw [← hw3]
    have HB3 : Hid (Blk w3 b (HC ⟨c0, c1, c2, c3, c4, c5, c6, c7⟩ 0 (.slice none 0 0)) 221) := Lib.hid (by
      subst hw3
      exact ((((((((HB2.out.set 0 _).set 1 _).set 2 _).set 3 _).set 4 _).set 5 _).set 6 _).set 7 _))
    have HG3 : Hid (Chg w w3 [b]) := Lib.hid (by
      subst hw3
      have h := ((Chg.refl w []).drew.trans HG2.out).none [b]
      exact (((((((h.setCell _ _ (by simp)).setCell _ _ (by simp)).setCell _ _ (by simp)).setCell _ _ (by simp)).setCell _ _ (by simp)).setCell _ _ (by simp)).setCell _ _ (by simp)).setCell _ _ (by simp))
    clear hw3
    refine wpAny_done (by kernel_rfl) ?_ _
    have ql3 := HB3.out.lt
    have qf3 : ∀ j, w3.frozen? ⟨b, j, none⟩ = false := fun j => HB3.out.frozen j
    have q38 : w3.cell? ⟨b, 8, none⟩ = some (.int .u64 0) := HB3.out.cell 8
    clear q0 q1 q2 q3 q4 q5 q6 q7 q8 q9 qf ql ql2 qf2 p0 p1 p2 p3 p4 p5 p6 p7 harr
    go_wp2
    have HB4 : Hid (Blk (w3.setCell ⟨b, 8, none⟩ (.int .u64 1)) b (HC ⟨c0, c1, c2, c3, c4, c5, c6, c7⟩ 1 (.slice none 0 0)) 221) := Lib.hid (HB3.out.set 8 _)
    have HG4 : Hid (Chg w (w3.setCell ⟨b, 8, none⟩ (.int .u64 1)) [b]) := Lib.hid (HG3.out.setCell _ _ (by simp))
    obtain ⟨w4, hw4⟩ : ∃ w4, w4 = w3.setCell ⟨b, 8, none⟩ (.int .u64 1) := ⟨_, rfl⟩
    rw [← hw4] at HB4 HG4 ⊢
    clear hw4 q38 qf3 ql3
    have ql4 := HB4.out.lt
    have qf4 : ∀ j, w4.frozen? ⟨b, j, none⟩ = false := fun j => HB4.out.frozen j
    have q49 : w4.cell? ⟨b, 9, none⟩ = some (.slice none 0 0) := HB4.out.cell 9
    have hq := fun (wx : World) (a : Option Addr) (n c : Nat) => Lib.run_eql_slice_nil (P := Tryz.prog) wx 90 5 a n c 0 0 Tryz.underlying90
    rw [rounds_succ]
    go_wp2
    refine bodyPost_end (v := .tuple #[]) (by first | rfl | kernel_rfl | simp [results, go_sem]) rfl ⟨rfl, (HG4.out.setCell _ _ (by simp)).alloc _, .slice (some ⟨w4.heap.size, 0, none⟩) 0 0, ?_⟩
    rw [← HM.out]
    exact (HB4.out.set 9 _).alloc _
  · go_simp
    refine hK _ _ ?_
    clear hK K
    refine wpAny_ready (rs := [4, 7]) (by kernel_rfl) (by simp) (AllReady.cons rfl (fun K hK => ?_) (AllReady.cons rfl (fun K hK => ?_) AllReady.nil))
    · go_simp
      refine hK _ _ ?_
      clear hK K
      refine wpAny_ready (rs := [7]) (by kernel_rfl) (by simp) (AllReady.cons rfl (fun K hK => ?_) AllReady.nil)
      rw [if_pos (by rfl)]
      refine wp_load_row 223 _ rfl bb (by rfl) 5 Sha.bCells.toArray (0, 0) _ Hb.out Tryz.underlying223 rfl (by kernel_rfl) (hK _ _ ?_)
      clear hK K
      refine wpAny_ready (rs := [8]) (by kernel_rfl) (by simp) (AllReady.cons rfl (fun K hK => ?_) AllReady.nil)
      go_simp
      go_at_call 121
      refine (HR.out w.drew (fun j hj => HK.out j hj)).mono ?_
      rintro e w2 ⟨rfl, hg2⟩
      refine hK _ _ ?_
      clear hK K
      obtain ⟨m, hm⟩ : ∃ m, m = Sha.round K0 ⟨a0, a1, a2, a3, a4, a5, a6, a7⟩ := ⟨_, rfl⟩
      rw [← hm]
      have HM := Lib.hid hm
      clear hm
      obtain ⟨c0, c1, c2, c3, c4, c5, c6, c7⟩ := m
      have HB2 := Lib.hid ((HB.out.drew).kept hg2 (by simp))
      have Hb2 := Lib.hid ((Hb.out.drew).kept hg2 (by simp))
      have ql2 := HB2.out.lt
      have qf2 : ∀ j, w2.frozen? ⟨b, j, none⟩ = false := fun j => HB2.out.frozen j
      have HG2 := Lib.hid hg2
      clear hg2
      have qc : (Sha.St.mk c0 c1 c2 c3 c4 c5 c6 c7).cells.toArray = #[.int .u32 c0, .int .u32 c1, .int .u32 c2, .int .u32 c3, .int .u32 c4, .int .u32 c5, .int .u32 c6, .int .u32 c7] := rfl
      rw [qc]
      clear qc
      refine wpAny_take (i := 9) (v := .pointer (some ⟨b, 0, none⟩)) rfl (by kernel_rfl) (by kernel_rfl) (by kernel_rfl) (fun _ _ _ h => h) (Or.inl ⟨by rfl, by intro w; go_simp⟩) ?_
      refine wpAny_take (i := 10) (v := .pointer (some ⟨b, 0, none⟩)) rfl (by kernel_rfl) (by kernel_rfl) (by kernel_rfl) (fun _ _ _ h => h) (Or.inl ⟨by rfl, by intro w; go_simp⟩) ?_
      refine wpAny_ready (rs := [11]) (by kernel_rfl) (by simp) (AllReady.cons rfl (fun K hK => ?_) AllReady.nil)
      have p0 := HB2.out.cell 0
      have p1 := HB2.out.cell 1
      have p2 := HB2.out.cell 2
      have p3 := HB2.out.cell 3
      have p4 := HB2.out.cell 4
      have p5 := HB2.out.cell 5
      have p6 := HB2.out.cell 6
      have p7 := HB2.out.cell 7
      simp only [List.getElem?_cons_zero, List.getElem?_cons_succ] at p0 p1 p2 p3 p4 p5 p6 p7
      go_simp
      refine hK _ _ ?_
      clear hK K
      have HM3 : ∃ w3, w3 = ((((((((w2.setCell ⟨b, 0, none⟩ (.int .u32 c0)).setCell ⟨b, 1, none⟩ (.int .u32 c1)).setCell ⟨b, 2, none⟩ (.int .u32 c2)).setCell ⟨b, 3, none⟩ (.int .u32 c3)).setCell ⟨b, 4, none⟩ (.int .u32 c4)).setCell ⟨b, 5, none⟩ (.int .u32 c5)).setCell ⟨b, 6, none⟩ (.int .u32 c6)).setCell ⟨b, 7, none⟩ (.int .u32 c7)) := ⟨_, rfl⟩
      obtain ⟨w3, hw3⟩ := HM3
      rw [← hw3]
      have HB3 : Hid (Blk w3 b (HC ⟨c0, c1, c2, c3, c4, c5, c6, c7⟩ 0 (.slice none 0 0)) 221) := Lib.hid (by
        subst hw3
        exact ((((((((HB2.out.set 0 _).set 1 _).set 2 _).set 3 _).set 4 _).set 5 _).set 6 _).set 7 _))
      have HG3 : Hid (Chg w w3 [b]) := Lib.hid (by
        subst hw3
        have h := ((Chg.refl w []).drew.trans HG2.out).none [b]
        exact (((((((h.setCell _ _ (by simp)).setCell _ _ (by simp)).setCell _ _ (by simp)).setCell _ _ (by simp)).setCell _ _ (by simp)).setCell _ _ (by simp)).setCell _ _ (by simp)).setCell _ _ (by simp))
      clear hw3
      refine wpAny_done (by kernel_rfl) ?_ _
      have ql3 := HB3.out.lt
      have qf3 : ∀ j, w3.frozen? ⟨b, j, none⟩ = false := fun j => HB3.out.frozen j
      have q38 : w3.cell? ⟨b, 8, none⟩ = some (.int .u64 0) := HB3.out.cell 8
      clear q0 q1 q2 q3 q4 q5 q6 q7 q8 q9 qf ql ql2 qf2 p0 p1 p2 p3 p4 p5 p6 p7 harr
      go_wp2
      have HB4 : Hid (Blk (w3.setCell ⟨b, 8, none⟩ (.int .u64 1)) b (HC ⟨c0, c1, c2, c3, c4, c5, c6, c7⟩ 1 (.slice none 0 0)) 221) := Lib.hid (HB3.out.set 8 _)
      have HG4 : Hid (Chg w (w3.setCell ⟨b, 8, none⟩ (.int .u64 1)) [b]) := Lib.hid (HG3.out.setCell _ _ (by simp))
      obtain ⟨w4, hw4⟩ : ∃ w4, w4 = w3.setCell ⟨b, 8, none⟩ (.int .u64 1) := ⟨_, rfl⟩
      rw [← hw4] at HB4 HG4 ⊢
      clear hw4 q38 qf3 ql3
      have ql4 := HB4.out.lt
      have qf4 : ∀ j, w4.frozen? ⟨b, j, none⟩ = false := fun j => HB4.out.frozen j
      have q49 : w4.cell? ⟨b, 9, none⟩ = some (.slice none 0 0) := HB4.out.cell 9
      have hq := fun (wx : World) (a : Option Addr) (n c : Nat) => Lib.run_eql_slice_nil (P := Tryz.prog) wx 90 5 a n c 0 0 Tryz.underlying90
      rw [rounds_succ]
      go_wp2
      refine bodyPost_end (v := .tuple #[]) (by first | rfl | kernel_rfl | simp [results, go_sem]) rfl ⟨rfl, (HG4.out.setCell _ _ (by simp)).alloc _, .slice (some ⟨w4.heap.size, 0, none⟩) 0 0, ?_⟩
      rw [← HM.out]
      exact (HB4.out.set 9 _).alloc _
    · rw [if_pos (by rfl)]
      refine wp_load_row 223 _ rfl bb (by rfl) 5 Sha.bCells.toArray (0, 0) _ Hb.out Tryz.underlying223 rfl (by kernel_rfl) (hK _ _ ?_)
      clear hK K
      refine wpAny_ready (rs := [4]) (by kernel_rfl) (by simp) (AllReady.cons rfl (fun K hK => ?_) AllReady.nil)
      go_simp
      refine hK _ _ ?_
      clear hK K
      refine wpAny_ready (rs := [8]) (by kernel_rfl) (by simp) (AllReady.cons rfl (fun K hK => ?_) AllReady.nil)
      go_simp
      go_at_call 121
      refine (HR.out w.drew (fun j hj => HK.out j hj)).mono ?_
      rintro e w2 ⟨rfl, hg2⟩
      refine hK _ _ ?_
      clear hK K
      obtain ⟨m, hm⟩ : ∃ m, m = Sha.round K0 ⟨a0, a1, a2, a3, a4, a5, a6, a7⟩ := ⟨_, rfl⟩
      rw [← hm]
      have HM := Lib.hid hm
      clear hm
      obtain ⟨c0, c1, c2, c3, c4, c5, c6, c7⟩ := m
      have HB2 := Lib.hid ((HB.out.drew).kept hg2 (by simp))
      have Hb2 := Lib.hid ((Hb.out.drew).kept hg2 (by simp))
      have ql2 := HB2.out.lt
      have qf2 : ∀ j, w2.frozen? ⟨b, j, none⟩ = false := fun j => HB2.out.frozen j
      have HG2 := Lib.hid hg2
      clear hg2
      have qc : (Sha.St.mk c0 c1 c2 c3 c4 c5 c6 c7).cells.toArray = #[.int .u32 c0, .int .u32 c1, .int .u32 c2, .int .u32 c3, .int .u32 c4, .int .u32 c5, .int .u32 c6, .int .u32 c7] := rfl
      rw [qc]
      clear qc
      refine wpAny_take (i := 9) (v := .pointer (some ⟨b, 0, none⟩)) rfl (by kernel_rfl) (by kernel_rfl) (by kernel_rfl) (fun _ _ _ h => h) (Or.inl ⟨by rfl, by intro w; go_simp⟩) ?_
      refine wpAny_take (i := 10) (v := .pointer (some ⟨b, 0, none⟩)) rfl (by kernel_rfl) (by kernel_rfl) (by kernel_rfl) (fun _ _ _ h => h) (Or.inl ⟨by rfl, by intro w; go_simp⟩) ?_
      refine wpAny_ready (rs := [11]) (by kernel_rfl) (by simp) (AllReady.cons rfl (fun K hK => ?_) AllReady.nil)
      have p0 := HB2.out.cell 0
      have p1 := HB2.out.cell 1
      have p2 := HB2.out.cell 2
      have p3 := HB2.out.cell 3
      have p4 := HB2.out.cell 4
      have p5 := HB2.out.cell 5
      have p6 := HB2.out.cell 6
      have p7 := HB2.out.cell 7
      simp only [List.getElem?_cons_zero, List.getElem?_cons_succ] at p0 p1 p2 p3 p4 p5 p6 p7
      go_simp
      refine hK _ _ ?_
      clear hK K
      have HM3 : ∃ w3, w3 = ((((((((w2.setCell ⟨b, 0, none⟩ (.int .u32 c0)).setCell ⟨b, 1, none⟩ (.int .u32 c1)).setCell ⟨b, 2, none⟩ (.int .u32 c2)).setCell ⟨b, 3, none⟩ (.int .u32 c3)).setCell ⟨b, 4, none⟩ (.int .u32 c4)).setCell ⟨b, 5, none⟩ (.int .u32 c5)).setCell ⟨b, 6, none⟩ (.int .u32 c6)).setCell ⟨b, 7, none⟩ (.int .u32 c7)) := ⟨_, rfl⟩
      obtain ⟨w3, hw3⟩ := HM3
      rw [← hw3]
      have HB3 : Hid (Blk w3 b (HC ⟨c0, c1, c2, c3, c4, c5, c6, c7⟩ 0 (.slice none 0 0)) 221) := Lib.hid (by
        subst hw3
        exact ((((((((HB2.out.set 0 _).set 1 _).set 2 _).set 3 _).set 4 _).set 5 _).set 6 _).set 7 _))
      have HG3 : Hid (Chg w w3 [b]) := Lib.hid (by
        subst hw3
        have h := ((Chg.refl w []).drew.trans HG2.out).none [b]
        exact (((((((h.setCell _ _ (by simp)).setCell _ _ (by simp)).setCell _ _ (by simp)).setCell _ _ (by simp)).setCell _ _ (by simp)).setCell _ _ (by simp)).setCell _ _ (by simp)).setCell _ _ (by simp))
      clear hw3
      refine wpAny_done (by kernel_rfl) ?_ _
      have ql3 := HB3.out.lt
      have qf3 : ∀ j, w3.frozen? ⟨b, j, none⟩ = false := fun j => HB3.out.frozen j
      have q38 : w3.cell? ⟨b, 8, none⟩ = some (.int .u64 0) := HB3.out.cell 8
      clear q0 q1 q2 q3 q4 q5 q6 q7 q8 q9 qf ql ql2 qf2 p0 p1 p2 p3 p4 p5 p6 p7 harr
      go_wp2
      have HB4 : Hid (Blk (w3.setCell ⟨b, 8, none⟩ (.int .u64 1)) b (HC ⟨c0, c1, c2, c3, c4, c5, c6, c7⟩ 1 (.slice none 0 0)) 221) := Lib.hid (HB3.out.set 8 _)
      have HG4 : Hid (Chg w (w3.setCell ⟨b, 8, none⟩ (.int .u64 1)) [b]) := Lib.hid (HG3.out.setCell _ _ (by simp))
      obtain ⟨w4, hw4⟩ : ∃ w4, w4 = w3.setCell ⟨b, 8, none⟩ (.int .u64 1) := ⟨_, rfl⟩
      rw [← hw4] at HB4 HG4 ⊢
      clear hw4 q38 qf3 ql3
      have ql4 := HB4.out.lt
      have qf4 : ∀ j, w4.frozen? ⟨b, j, none⟩ = false := fun j => HB4.out.frozen j
      have q49 : w4.cell? ⟨b, 9, none⟩ = some (.slice none 0 0) := HB4.out.cell 9
      have hq := fun (wx : World) (a : Option Addr) (n c : Nat) => Lib.run_eql_slice_nil (P := Tryz.prog) wx 90 5 a n c 0 0 Tryz.underlying90
      rw [rounds_succ]
      go_wp2
      refine bodyPost_end (v := .tuple #[]) (by first | rfl | kernel_rfl | simp [results, go_sem]) rfl ⟨rfl, (HG4.out.setCell _ _ (by simp)).alloc _, .slice (some ⟨w4.heap.size, 0, none⟩) 0 0, ?_⟩
      rw [← HM.out]
      exact (HB4.out.set 9 _).alloc _
end Go.Proofs.YtfdhgakalojahaaGreatDoor

namespace Go.Proofs.YtfdhgakalojahaaGreatDoor
open Go Go.RowKit

/-- byte j of the digest that a state is -/
def dg (s : Sha.St) (j : Nat) : Int := (s.fn (j / 4) / 2 ^ (24 - 8 * (j % 4))) % 256
def dCells (s : Sha.St) (k : Nat) : List Value := (List.range 32).map fun j => .int .u8 (if j < k then dg s j else 0)

theorem dCells_length (s : Sha.St) (k : Nat) : (dCells s k).length = 32 := by simp [dCells]

theorem dCells_get {s : Sha.St} {k j : Nat} (hj : j < 32) : (dCells s k)[j]? = some (.int .u8 (if j < k then dg s j else 0)) := by
  unfold dCells; rw [List.getElem?_map, List.getElem?_range hj]; rfl

theorem dCells_set (s : Sha.St) (k : Nat) : (dCells s k).set k (.int .u8 (dg s k)) = dCells s (k + 1) := by
  apply List.ext_getElem?
  intro i
  by_cases hi : i < 32
  · rw [List.getElem?_set, dCells_get hi, dCells_get hi, dCells_length]
    by_cases h : k = i
    · subst h; simp [hi]
    · rw [if_neg h]
      by_cases h2 : i < k
      · rw [if_pos h2, if_pos (by omega)]
      · rw [if_neg h2, if_neg (by omega)]
  · rw [List.getElem?_eq_none (by rw [List.length_set, dCells_length]; omega), List.getElem?_eq_none (by rw [dCells_length]; omega)]

theorem dCells_zero (s : Sha.St) : dCells s 0 = List.replicate 32 (.int .u8 0) := by
  apply List.ext_getElem?
  intro i
  by_cases hi : i < 32
  · rw [dCells_get hi, List.getElem?_replicate, if_pos hi]; simp
  · rw [List.getElem?_eq_none (by rw [dCells_length]; omega), List.getElem?_eq_none (by simp; omega)]

theorem dCells_one (s : Sha.St) (k : Nat) : ∀ v ∈ dCells s k, v.oneCell' = true := by
  intro v hv
  obtain ⟨j, _, rfl⟩ := List.mem_map.1 hv
  rfl

theorem dg_at (s : Sha.St) (i k : Nat) (hk : k < 4) : dg s (4 * i + k) = s.fn i / 2 ^ (24 - 8 * k) % 256 := by
  unfold dg
  rw [show (4 * i + k) / 4 = i from by omega, show (4 * i + k) % 4 = k from by omega]

theorem info_dg5 : (Tryz.prog.info? 23).map (·.size) = some 32 := by kernel_rfl

theorem index_state0 (a b c d e f g h : Int) (w : World) : (Instr.index 213 (.agg #[.int .u32 a, .int .u32 b, .int .u32 c, .int .u32 d, .int .u32 e, .int .u32 f, .int .u32 g, .int .u32 h]) (.int .i64 0)).run Tryz.prog w = .ok (.int .u32 ((⟨a, b, c, d, e, f, g, h⟩ : Sha.St).fn 0)) w := by kernel_rfl
theorem index_state1 (a b c d e f g h : Int) (w : World) : (Instr.index 213 (.agg #[.int .u32 a, .int .u32 b, .int .u32 c, .int .u32 d, .int .u32 e, .int .u32 f, .int .u32 g, .int .u32 h]) (.int .i64 1)).run Tryz.prog w = .ok (.int .u32 ((⟨a, b, c, d, e, f, g, h⟩ : Sha.St).fn 1)) w := by kernel_rfl
theorem index_state2 (a b c d e f g h : Int) (w : World) : (Instr.index 213 (.agg #[.int .u32 a, .int .u32 b, .int .u32 c, .int .u32 d, .int .u32 e, .int .u32 f, .int .u32 g, .int .u32 h]) (.int .i64 2)).run Tryz.prog w = .ok (.int .u32 ((⟨a, b, c, d, e, f, g, h⟩ : Sha.St).fn 2)) w := by kernel_rfl
theorem index_state3 (a b c d e f g h : Int) (w : World) : (Instr.index 213 (.agg #[.int .u32 a, .int .u32 b, .int .u32 c, .int .u32 d, .int .u32 e, .int .u32 f, .int .u32 g, .int .u32 h]) (.int .i64 3)).run Tryz.prog w = .ok (.int .u32 ((⟨a, b, c, d, e, f, g, h⟩ : Sha.St).fn 3)) w := by kernel_rfl
theorem index_state4 (a b c d e f g h : Int) (w : World) : (Instr.index 213 (.agg #[.int .u32 a, .int .u32 b, .int .u32 c, .int .u32 d, .int .u32 e, .int .u32 f, .int .u32 g, .int .u32 h]) (.int .i64 4)).run Tryz.prog w = .ok (.int .u32 ((⟨a, b, c, d, e, f, g, h⟩ : Sha.St).fn 4)) w := by kernel_rfl
theorem index_state5 (a b c d e f g h : Int) (w : World) : (Instr.index 213 (.agg #[.int .u32 a, .int .u32 b, .int .u32 c, .int .u32 d, .int .u32 e, .int .u32 f, .int .u32 g, .int .u32 h]) (.int .i64 5)).run Tryz.prog w = .ok (.int .u32 ((⟨a, b, c, d, e, f, g, h⟩ : Sha.St).fn 5)) w := by kernel_rfl
theorem index_state6 (a b c d e f g h : Int) (w : World) : (Instr.index 213 (.agg #[.int .u32 a, .int .u32 b, .int .u32 c, .int .u32 d, .int .u32 e, .int .u32 f, .int .u32 g, .int .u32 h]) (.int .i64 6)).run Tryz.prog w = .ok (.int .u32 ((⟨a, b, c, d, e, f, g, h⟩ : Sha.St).fn 6)) w := by kernel_rfl
theorem index_state7 (a b c d e f g h : Int) (w : World) : (Instr.index 213 (.agg #[.int .u32 a, .int .u32 b, .int .u32 c, .int .u32 d, .int .u32 e, .int .u32 f, .int .u32 g, .int .u32 h]) (.int .i64 7)).run Tryz.prog w = .ok (.int .u32 ((⟨a, b, c, d, e, f, g, h⟩ : Sha.St).fn 7)) w := by kernel_rfl

theorem index_state (a b c d e f g h : Int) (i : Nat) (hi : i < 8) (w : World) : (Instr.index 213 (.agg #[.int .u32 a, .int .u32 b, .int .u32 c, .int .u32 d, .int .u32 e, .int .u32 f, .int .u32 g, .int .u32 h]) (.int .i64 i)).run Tryz.prog w = .ok (.int .u32 ((⟨a, b, c, d, e, f, g, h⟩ : Sha.St).fn i)) w :=
  match i, hi with
  | 0, _ => index_state0 a b c d e f g h w
  | 1, _ => index_state1 a b c d e f g h w
  | 2, _ => index_state2 a b c d e f g h w
  | 3, _ => index_state3 a b c d e f g h w
  | 4, _ => index_state4 a b c d e f g h w
  | 5, _ => index_state5 a b c d e f g h w
  | 6, _ => index_state6 a b c d e f g h w
  | 7, _ => index_state7 a b c d e f g h w
  | n + 8, h => absurd h (by omega)

set_option maxRecDepth 100000 in
set_option maxHeartbeats 8000000 in
theorem sha_Sum (K0 : Nat → Int) (b : Nat) (f : Sha.St) (w : World) (hB : Blk w b (HC f 0 (.slice none 0 0)) 221)
    (hK : ∀ j, j < 64 → w.cell? ⟨2, j, none⟩ = some (.int .u32 (K0 j))) :
    Calls Tryz.prog 98 #[.pointer (some ⟨b, 0, none⟩)] w fun e w' => e = .returned (.agg (dCells (Sha.round K0 f) 32).toArray) ∧ Chg w w' [] := by
  have HB := Lib.hid hB
  have HK := Lib.hid hK
  have hbl := hB.lt
  clear hB hK
  go_enter Tryz.func98, Tryz.ntmps98
  go_wp2_with fail
  obtain ⟨w0, hw0⟩ : ∃ x, x = w.alloc (.cells (List.replicate 32 (.int .u8 0)).toArray 23) := ⟨_, rfl⟩
  have HB0 : Hid (Blk w0 b (HC f 0 (.slice none 0 0)) 221) := by rw [hw0]; exact Lib.hid (HB.out.alloc _)
  have HR0 : Hid (Blk w0 w.heap.size (List.replicate 32 (.int .u8 0)) 23) := by rw [hw0]; exact Lib.hid (Blk.new _ _ _)
  have HG0 : Hid (Chg w w0 []) := by rw [hw0]; exact Lib.hid ((Chg.refl w []).alloc _)
  change Calls _ _ _ (w.alloc (.cells (List.replicate 32 (.int .u8 0)).toArray 23)) _
  rw [← hw0]
  clear hw0
  refine (sha_Copy b f w0 HB0.out).mono ?_
  rintro e w1 ⟨rfl, hg1, hB1⟩
  have hz0 := HG0.out.size
  have HB1 := Lib.hid (HB0.out.kept hg1 (by simp))
  have HR1 := Lib.hid (HR0.out.kept hg1 (by simp))
  have HX1 := Lib.hid hB1
  have HG1 := Lib.hid (HG0.out.trans hg1)
  have hbl0 := HB0.out.lt
  have hrl0 := HR0.out.lt
  have hbw := HB.out.lt
  obtain ⟨X, hX⟩ : ∃ X, X = w0.heap.size := ⟨_, rfl⟩
  rw [← hX] at HX1 hbl0 hrl0 ⊢
  have hzx : w.heap.size ≤ X := by omega
  clear hX hz0 hg1 hB1 HB0 HR0 HG0
  go_wp2_with fail
  refine (sha_Len b f w1 HB1.out).mono ?_
  rintro e w2 ⟨rfl, hg2⟩
  have HB2 := Lib.hid (HB1.out.kept hg2 (by simp))
  have HR2 := Lib.hid (HR1.out.kept hg2 (by simp))
  have HX2 := Lib.hid (HX1.out.kept hg2 (by simp))
  have HG2 := Lib.hid (HG1.out.trans hg2)
  clear hg2 HB1 HR1 HX1 HG1
  go_wp2_with fail
  refine (sha_pad w2).mono ?_
  rintro e w3 ⟨rfl, hg3, hP⟩
  have HR3 := Lib.hid (HR2.out.kept hg3 (by simp))
  have HX3 := Lib.hid (HX2.out.kept hg3 (by simp))
  have HP3 := Lib.hid hP
  have HG3 := Lib.hid (HG2.out.trans hg3)
  have hxl := HX2.out.lt
  obtain ⟨P, hP'⟩ : ∃ P, P = w2.heap.size := ⟨_, rfl⟩
  rw [← hP'] at HP3 hxl ⊢
  clear hP' hg3 hP HB2 HR2 HX2 HG2
  go_wp2_with fail
  refine (sha_write K0 X P f w3 HX3.out HP3.out (by omega) (fun j hj => HG3.out.keeps (HK.out j hj))).mono ?_
  rintro e w4 ⟨rfl, hg4, r, hX4⟩
  have HR4 := Lib.hid (HR3.out.kept hg4 (by simp; omega))
  have HX4 := Lib.hid hX4
  have HG4 := Lib.hid (HG3.out.step (bs := []) hg4 (by simp; omega))
  clear hg4 hX4 HR3 HX3 HP3 HG3
  obtain ⟨s, hs⟩ : ∃ s, s = Sha.round K0 f := ⟨_, rfl⟩
  rw [← hs] at HX4
  have HS := Lib.hid hs
  clear hs
  obtain ⟨a0, a1, a2, a3, a4, a5, a6, a7⟩ := s
  have hX5 := HX4.out
  rw [HC.eq] at hX5
  have q0 := hX5.cell 0
  have q1 := hX5.cell 1
  have q2 := hX5.cell 2
  have q3 := hX5.cell 3
  have q4 := hX5.cell 4
  have q5 := hX5.cell 5
  have q6 := hX5.cell 6
  have q7 := hX5.cell 7
  simp only [List.getElem?_cons_zero, List.getElem?_cons_succ] at q0 q1 q2 q3 q4 q5 q6 q7
  have xl := hX5.lt
  have HD : Hid (Blk (w4.alloc (.cells (List.replicate 32 (.int .u8 0)).toArray 23)) w4.heap.size (dCells ⟨a0, a1, a2, a3, a4, a5, a6, a7⟩ 0) 23) := by rw [dCells_zero]; exact Lib.hid (Blk.new _ _ _)
  have HR5 := Lib.hid (HR4.out.alloc (.cells (List.replicate 32 (.int .u8 0)).toArray 23))
  have HG5 := Lib.hid (HG4.out.alloc (.cells (List.replicate 32 (.int .u8 0)).toArray 23))
  have hrl := HR4.out.lt
  clear hX5
  go_wp2_with fail
  clear q0 q1 q2 q3 q4 q5 q6 q7 xl
  have hix : Hid (∀ (i : Nat), i < 8 → ∀ wx, (Instr.index 213 (.agg #[.int .u32 a0, .int .u32 a1, .int .u32 a2, .int .u32 a3, .int .u32 a4, .int .u32 a5, .int .u32 a6, .int .u32 a7]) (.int .i64 i)).run Tryz.prog wx = .ok (.int .u32 ((⟨a0, a1, a2, a3, a4, a5, a6, a7⟩ : Sha.St).fn i)) wx) :=
    fun i hi wx => index_state a0 a1 a2 a3 a4 a5 a6 a7 i hi wx
  obtain ⟨S, hS⟩ : ∃ S : Sha.St, S = ⟨a0, a1, a2, a3, a4, a5, a6, a7⟩ := ⟨_, rfl⟩
  rw [← hS] at hix HD HS
  clear hS HX4 HR4 HG4
  obtain ⟨w5, hw5⟩ : ∃ x, x = w4.alloc (.cells (List.replicate 32 (.int .u8 0)).toArray 23) := ⟨_, rfl⟩
  rw [← hw5] at HD HR5 HG5
  change Code.wp _ _ _ _ (w4.alloc (.cells (List.replicate 32 (.int .u8 0)).toArray 23))
  rw [← hw5]
  obtain ⟨D, hD⟩ : ∃ D, D = w4.heap.size := ⟨_, rfl⟩
  rw [← hD] at HD hrl ⊢
  clear hw5 hD
  go_loopw [22] (fun v wr => ∃ i : Nat, i ≤ 8 ∧ v = .int .i64 i ∧ Chg w wr [] ∧ Blk wr w.heap.size (List.replicate 32 (.int .u8 0)) 23 ∧ Blk wr D (dCells S (4 * i)) 23) (fun v _ => 8 - (intOf v).toNat)
  case atStart => exact ⟨0, by omega, rfl, HG5.out, HR5.out, HD.out⟩
  case round =>
    clear HG5 HR5 HD
    obtain ⟨wa, rfl⟩ : ∃ x, x = wr := ⟨_, rfl⟩
    obtain ⟨i, hi, rfl, hg, hR, hD⟩ := hrel
    have HG := Lib.hid hg
    have HR := Lib.hid hR
    have HD := Lib.hid hD
    clear hg hR hD
    by_cases hlt : i < 8
    · have d8 : decide ((i : Int) < 8) = true := by simp; omega
      have hx := hix.out i hlt
      have b0 : (0 : Int) ≤ i := by omega
      go_wp2_with fail
      clear d8 hx
      have i8 : (i : Int) < 8 := by omega
      go_loopw [26] (fun v wr => ∃ k : Nat, k ≤ 4 ∧ v = .int .i64 k ∧ Chg w wr [] ∧ Blk wr w.heap.size (List.replicate 32 (.int .u8 0)) 23 ∧ Blk wr D (dCells S (4 * i + k)) 23) (fun v _ => 4 - (intOf v).toNat)
      case atStart => exact ⟨0, by omega, rfl, HG.out, HR.out, HD.out⟩
      case round =>
        clear HG HR HD
        obtain ⟨k, hk, rfl, hg, hR, hD⟩ := hrel
        have HG := Lib.hid hg
        have HR := Lib.hid hR
        have HD := Lib.hid hD
        by_cases hlk : k < 4
        · have hdg : dg S (4 * i + k) = S.fn i / 2 ^ (24 - 8 * k) % 256 := dg_at S i k hlk
          have hset := dCells_set S (4 * i + k)
          rw [hdg] at hset
          have HSET := Lib.hid hset
          have hf : ∀ j, wr.frozen? ⟨D, j, none⟩ = false := fun j => hD.frozen j
          have hcl : wr.cell? ⟨D, 4 * i + k, none⟩ = some (.int .u8 0) := by rw [hD.cell, dCells_get (by omega), if_neg (by omega)]
          have hl := hD.lt
          clear hg hR hD hdg hset
          have : k = 0 ∨ k = 1 ∨ k = 2 ∨ k = 3 := by omega
          clear hlk hk
          rcases this with rfl | rfl | rfl | rfl
          · try simp only [Nat.add_zero] at hcl
            go_wp2
            go_roundw
            case rel =>
              refine ⟨1, by omega, rfl, HG.out.setCell _ _ (by simp; omega), HR.out.set_other _ _ (by simp; omega), ?_⟩
              have h := HSET.out
              rw [show (2 : Int) ^ (24 - 8 * 0) = 16777216 from by decide] at h
              have h2 := HD.out.set (4 * i + 0) (.int .u8 (S.fn i / 16777216 % 256))
              rw [h] at h2
              simpa using h2
            case measure => simp [intOf]
          · try simp only [Nat.add_zero] at hcl
            go_wp2
            go_roundw
            case rel =>
              refine ⟨2, by omega, rfl, HG.out.setCell _ _ (by simp; omega), HR.out.set_other _ _ (by simp; omega), ?_⟩
              have h := HSET.out
              rw [show (2 : Int) ^ (24 - 8 * 1) = 65536 from by decide] at h
              have h2 := HD.out.set (4 * i + 1) (.int .u8 (S.fn i / 65536 % 256))
              rw [h] at h2
              simpa using h2
            case measure => simp [intOf]
          · try simp only [Nat.add_zero] at hcl
            go_wp2
            go_roundw
            case rel =>
              refine ⟨3, by omega, rfl, HG.out.setCell _ _ (by simp; omega), HR.out.set_other _ _ (by simp; omega), ?_⟩
              have h := HSET.out
              rw [show (2 : Int) ^ (24 - 8 * 2) = 256 from by decide] at h
              have h2 := HD.out.set (4 * i + 2) (.int .u8 (S.fn i / 256 % 256))
              rw [h] at h2
              simpa using h2
            case measure => simp [intOf]
          · try simp only [Nat.add_zero] at hcl
            go_wp2
            go_roundw
            case rel =>
              refine ⟨4, by omega, rfl, HG.out.setCell _ _ (by simp; omega), HR.out.set_other _ _ (by simp; omega), ?_⟩
              have h := HSET.out
              rw [show (2 : Int) ^ (24 - 8 * 3) = 1 from by decide] at h
              have h2 := HD.out.set (4 * i + 3) (.int .u8 (S.fn i / 1 % 256))
              rw [h] at h2
              simpa using h2
            case measure => simp [intOf]
        · obtain rfl : k = 4 := by omega
          clear hg hR hD
          go_wp2
          go_roundw
          case rel => exact ⟨i + 1, by omega, by go_num, HG.out, HR.out, HD.out⟩
          case measure => simp [intOf]; omega
    · obtain rfl : i = 8 := by omega
      rw [HS.out] at HD
      go_wp2_with (first
        | (refine wpList_load_blk rfl _ _ rfl D rfl 23 _ HD.out _ Tryz.underlying23 rfl (by rw [info_dg5, dCells_length]) ?_)
        | (refine wpList_store_blk rfl _ _ _ rfl w.heap.size (dCells (Sha.round K0 f) (4 * 8)) rfl rfl 23 _ HR.out (by rw [info_dg5, dCells_length]) (by rw [dCells_length]; rfl) (dCells_one _ _) ?_; intro w6 hz6 hB6 hg6))
      exact bodyPost_ret (results_blk rfl _ _ w.heap.size 23 (dCells (Sha.round K0 f) 32) _ rfl hB6 Tryz.underlying23 rfl (by rw [info_dg5, dCells_length])) rfl ⟨rfl, HG.out.fresh hg6 (by simp)⟩
end Go.Proofs.YtfdhgakalojahaaGreatDoor

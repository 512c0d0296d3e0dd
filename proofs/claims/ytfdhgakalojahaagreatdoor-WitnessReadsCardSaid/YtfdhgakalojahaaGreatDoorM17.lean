/- WALKS: the reference's layer 2: a block. -/
import Derived.Deep.RegionWith
import Derived.Deep.RegionHeld3
import Derived.Deep.DeepCutAuto
import Derived.StillTailTactics
import Derived.BigQuiet
import Derived.Deep.QuietTactic
import Derived.Test.YtfdhgakalojahaaGreatDoorM16
import Derived.Test.YtfdhgakalojahaaGreatDoorM12
set_option linter.unusedSimpArgs false
set_option linter.unusedVariables false
set_option linter.unnecessarySimpa false
set_option linter.unusedSectionVars false
namespace Go.Proofs.YtfdhgakalojahaaGreatDoor
open Go Go.RowKit

/-- what stands in memory while a block is done by the reference -/
structure RG (w wr : World) (Bk Bw : Nat) (fl wl : List Value) : Prop where
  chg : Chg w wr []
  bF : Blk wr w.heap.size fl 213
  bB : Blk wr (w.heap.size + 1) Sha.bCells 223
  bR : Blk wr (w.heap.size + 1 + 1) (List.replicate 8 (.int .u32 0)) 213
  bK : Blk wr Bk (rootC 64 true 64) 238
  bW : Blk wr Bw wl 238
  lo : w.heap.size + 1 + 1 < Bk
  kw : Bk < Bw

theorem RG.setW {w wr : World} {Bk Bw : Nat} {fl wl wl' : List Value} (h : RG w wr Bk Bw fl wl) (j : Nat) (v : Value) (he : wl.set j v = wl') : RG w (wr.setCell ⟨Bw, j, none⟩ v) Bk Bw fl wl' := by
  have h1 := h.lo
  have h2 := h.kw
  subst he
  exact ⟨h.chg.setCell _ _ (by simp; omega), h.bF.set_other _ _ (by simp; omega), h.bB.set_other _ _ (by simp; omega), h.bR.set_other _ _ (by simp; omega), h.bK.set_other _ _ (by simp; omega), h.bW.set j v, h1, h2⟩

theorem RG.drew {w wr : World} {Bk Bw : Nat} {fl wl : List Value} (h : RG w wr Bk Bw fl wl) : RG w wr.drew Bk Bw fl wl := ⟨h.chg.drew, h.bF.drew, h.bB.drew, h.bR.drew, h.bK.drew, h.bW.drew, h.lo, h.kw⟩
theorem RG.drewN {w wr : World} {Bk Bw : Nat} {fl wl : List Value} (h : RG w wr Bk Bw fl wl) (n : Nat) : RG w (wr.drewN n) Bk Bw fl wl := ⟨h.chg.drewN n, h.bF.drewN n, h.bB.drewN n, h.bR.drewN n, h.bK.drewN n, h.bW.drewN n, h.lo, h.kw⟩

theorem World.cell?_setCell_ne' (w : World) (b i j : Nat) (v : Value) (h : i ≠ j) : (w.setCell ⟨b, j, none⟩ v).cell? ⟨b, i, none⟩ = w.cell? ⟨b, i, none⟩ := by
  simp only [World.cell?, World.setCell, Array.getElem?_modify]
  by_cases hb : b < w.heap.size
  · simp only [if_true, Array.getElem?_eq_getElem hb, Option.map_some]
    cases w.heap[b] with
    | cells cs T fr => simp [Array.getElem?_setIfInBounds, h.symm]
    | _ => rfl
  · simp [Array.getElem?_eq_none (by omega : w.heap.size ≤ b)]

theorem rootC_len : (rootC 64 true 64).length = 64 := by unfold rootC; rw [Sha.cellsF_length]

set_option maxRecDepth 100000 in
set_option maxHeartbeats 16000000 in
theorem r2_Round (f0 f1 f2 f3 f4 f5 f6 f7 : Int) (w : World) :
    Calls Tryz.prog 134 #[.agg #[.int .u32 f0, .int .u32 f1, .int .u32 f2, .int .u32 f3, .int .u32 f4, .int .u32 f5, .int .u32 f6, .int .u32 f7], .agg Sha.bCells.toArray] w fun e w' =>
      e = .returned (.agg (Sha.round (rootV true) ⟨f0, f1, f2, f3, f4, f5, f6, f7⟩).cells.toArray) ∧ Chg w w' [] := by
  have hcb : (Value.agg Sha.bCells.toArray).cells = Sha.bCells.toArray := by unfold Sha.bCells; simp [Value.cells]
  have HF0 := Lib.hid ((Blk.new w [.int .u32 f0, .int .u32 f1, .int .u32 f2, .int .u32 f3, .int .u32 f4, .int .u32 f5, .int .u32 f6, .int .u32 f7] 213))
  have HFB : Hid (Blk ((w.alloc (.cells [.int .u32 f0, .int .u32 f1, .int .u32 f2, .int .u32 f3, .int .u32 f4, .int .u32 f5, .int .u32 f6, .int .u32 f7].toArray 213)).alloc (.cells Sha.bCells.toArray 223)) (w.heap.size + 1) Sha.bCells 223) := by
    have := Blk.new (w.alloc (.cells [.int .u32 f0, .int .u32 f1, .int .u32 f2, .int .u32 f3, .int .u32 f4, .int .u32 f5, .int .u32 f6, .int .u32 f7].toArray 213)) Sha.bCells 223
    rw [World.size_alloc] at this
    exact this
  have HFR : Hid (Blk (((w.alloc (.cells [.int .u32 f0, .int .u32 f1, .int .u32 f2, .int .u32 f3, .int .u32 f4, .int .u32 f5, .int .u32 f6, .int .u32 f7].toArray 213)).alloc (.cells Sha.bCells.toArray 223)).alloc (.cells (List.replicate 8 (.int .u32 0)).toArray 213)) (w.heap.size + 1 + 1) (List.replicate 8 (.int .u32 0)) 213) := by
    have := Blk.new ((w.alloc (.cells [.int .u32 f0, .int .u32 f1, .int .u32 f2, .int .u32 f3, .int .u32 f4, .int .u32 f5, .int .u32 f6, .int .u32 f7].toArray 213)).alloc (.cells Sha.bCells.toArray 223)) (List.replicate 8 (.int .u32 0)) 213
    rw [World.size_alloc, World.size_alloc] at this
    exact this
  have HK : Hid (∀ w, Calls Tryz.prog 156 #[] w fun e w' => e = .returned (.agg (rootC 64 true 64).toArray) ∧ Chg w w' []) := fun w => r2_Constants w
  go_enter Tryz.func134, Tryz.ntmps134
  go_wp2_with (first
    | (go_at_call 156; (with_reducible refine (HK.out _).mono ?_); rintro e w1 ⟨rfl, hg1⟩; have HG1 := Lib.hid hg1; clear hg1)
    | (refine wpList_store_blk rfl _ _ _ rfl w1.heap.size (rootC 64 true 64) rfl rfl 238 (List.replicate 64 (.int .u32 0)) (Blk.new w1 _ _) (by rw [info_Constants, rootC_len]) (by rw [rootC_len]; rfl) (cellsF_one _ _) ?_; intro w2 hz2 hB2 hg2; have HB2 := Lib.hid hB2; have HG2 := Lib.hid hg2; clear hB2 hg2))
  have hsz : w.heap.size + 1 + 1 + 1 ≤ w1.heap.size := by have := HG1.out.size; simpa using this
  simp only [World.size_alloc] at hz2
  have HR0 : Hid (RG w (w2.alloc (.cells (List.replicate 64 (.int .u32 0)).toArray 238)) w1.heap.size (w1.heap.size + 1) [.int .u32 f0, .int .u32 f1, .int .u32 f2, .int .u32 f3, .int .u32 f4, .int .u32 f5, .int .u32 f6, .int .u32 f7] (Sha.wCells 0)) := by
    refine ⟨?_, ?_, ?_, ?_, HB2.out.alloc _, ?_, by omega, by omega⟩
    · exact (((((((Chg.refl w []).alloc _).alloc _).alloc _).trans HG1.out).alloc _).fresh HG2.out (by simp; omega)).alloc _
    · exact ((((((HF0.out.alloc _).alloc _).kept HG1.out (by simp)).alloc _).kept HG2.out (by simp; omega)).alloc _)
    · exact (((((HFB.out.alloc _).kept HG1.out (by simp)).alloc _).kept HG2.out (by simp; omega)).alloc _)
    · exact ((((HFR.out.kept HG1.out (by simp)).alloc _).kept HG2.out (by simp; omega)).alloc _)
    · rw [Sha.wCells_zero, ← hz2]; exact Blk.new _ _ _
  clear HF0 HFB HFR HB2 HG1 HG2
  obtain ⟨Bk, hBk⟩ : ∃ B, B = w1.heap.size := ⟨_, rfl⟩
  rw [← hBk] at HR0 ⊢
  obtain ⟨Bw, hBw⟩ : ∃ B, B = Bk + 1 := ⟨_, rfl⟩
  rw [← hBw] at HR0 ⊢
  clear hBk hBw hz2 hsz
  go_loopw [7] (fun i wr => ∃ t : Nat, t ≤ 64 ∧ i = .int .i64 t ∧ RG w wr Bk Bw [.int .u32 f0, .int .u32 f1, .int .u32 f2, .int .u32 f3, .int .u32 f4, .int .u32 f5, .int .u32 f6, .int .u32 f7] (Sha.wCells t))
    (fun i _ => 64 - (intOf i).toNat)
  case atStart => exact ⟨0, by omega, rfl, HR0.out⟩
  case round =>
    clear HR0
    obtain ⟨wa, hwa⟩ : ∃ x, x = wr := ⟨_, rfl⟩
    subst hwa
    obtain ⟨t, ht, rfl, hR⟩ := hrel
    have HR := Lib.hid hR
    clear hR
    by_cases hlt : t < 64
    · have i64 : (t : Int) < 64 := by omega
      have gt : wa.cell? ⟨Bw, t, none⟩ = some (.int .u32 0) := by
        rw [HR.out.bW.cell, Sha.wCells_get (by omega), if_neg (by omega)]
      have gf : ∀ j, wa.frozen? ⟨Bw, j, none⟩ = false := fun j => HR.out.bW.frozen j
      have gl := HR.out.bW.lt
      by_cases h16 : t < 16
      · have c0 : wa.cell? ⟨w.heap.size + 1, 4 * t, none⟩ = some (.int .u8 (Sha.bv (4 * t))) := by
          rw [HR.out.bB.cell, Sha.bCells_get (by omega)]
        have c1 : wa.cell? ⟨w.heap.size + 1, 4 * t + 1, none⟩ = some (.int .u8 (Sha.bv (4 * t + 1))) := by
          rw [HR.out.bB.cell, Sha.bCells_get (by omega)]
        have c2 : wa.cell? ⟨w.heap.size + 1, 4 * t + 2, none⟩ = some (.int .u8 (Sha.bv (4 * t + 2))) := by
          rw [HR.out.bB.cell, Sha.bCells_get (by omega)]
        have c3 : wa.cell? ⟨w.heap.size + 1, 4 * t + 3, none⟩ = some (.int .u8 (Sha.bv (4 * t + 3))) := by
          rw [HR.out.bB.cell, Sha.bCells_get (by omega)]
        have q0 : IntKind.i64.wrap (4 * (t : Int)) = 4 * (t : Int) := IntWalk.i64_in _ (by omega)
        have q1 : IntKind.i64.wrap (4 * (t : Int) + 1) = 4 * (t : Int) + 1 := IntWalk.i64_in _ (by omega)
        have q2 : IntKind.i64.wrap (4 * (t : Int) + 2) = 4 * (t : Int) + 2 := IntWalk.i64_in _ (by omega)
        have q3 : IntKind.i64.wrap (4 * (t : Int) + 3) = 4 * (t : Int) + 3 := IntWalk.i64_in _ (by omega)
        have n0 : (0 : Int) ≤ 4 * (t : Int) := by omega
        have n1 : (0 : Int) ≤ 4 * (t : Int) + 1 := by omega
        have n2 : (0 : Int) ≤ 4 * (t : Int) + 2 := by omega
        have n3 : (0 : Int) ≤ 4 * (t : Int) + 3 := by omega
        have m0 : 4 * (t : Int) < 64 := by omega
        have m1 : 4 * (t : Int) + 1 < 64 := by omega
        have m2 : 4 * (t : Int) + 2 < 64 := by omega
        have m3 : 4 * (t : Int) + 3 < 64 := by omega
        have k0 : (4 * (t : Int)).toNat = 4 * t := by omega
        have k1 : (4 * (t : Int) + 1).toNat = 4 * t + 1 := by omega
        have k2 : (4 * (t : Int) + 2).toNat = 4 * t + 2 := by omega
        have k3 : (4 * (t : Int) + 3).toNat = 4 * t + 3 := by omega
        have hor := Sha.wv_word h16
        obtain ⟨y0, hy0⟩ : ∃ y, y = Sha.bv (4 * t) := ⟨_, rfl⟩
        obtain ⟨y1, hy1⟩ : ∃ y, y = Sha.bv (4 * t + 1) := ⟨_, rfl⟩
        obtain ⟨y2, hy2⟩ : ∃ y, y = Sha.bv (4 * t + 2) := ⟨_, rfl⟩
        obtain ⟨y3, hy3⟩ : ∃ y, y = Sha.bv (4 * t + 3) := ⟨_, rfl⟩
        obtain ⟨v, hv⟩ : ∃ v, v = Sha.wv t := ⟨_, rfl⟩
        rw [← hy0] at c0 hor
        rw [← hy1] at c1 hor
        rw [← hy2] at c2 hor
        rw [← hy3] at c3 hor
        rw [← hv] at hor
        have HV := Lib.hid hv
        clear hy0 hy1 hy2 hy3 hv
        go_wp2
        go_still_tail 31, (by kernel_rfl)
        clear q0 q1 q2 q3 n0 n1 n2 n3 m0 m1 m2 m3 k0 k1 k2 k3 hor c0 c1 c2 c3
        go_wp2
        go_roundw
        case rel =>
          refine ⟨t + 1, by omega, by go_num, ?_⟩
          refine (HR.out.setW t (.int .u32 v) ?_).drew
          rw [HV.out, Sha.wCells_set]
        case measure => simp [intOf]; omega
      · have g0 : wa.cell? ⟨Bw, t - 16, none⟩ = some (.int .u32 (Sha.wv (t - 16))) := by
          rw [HR.out.bW.cell, Sha.wCells_get (by omega), if_pos (by omega)]
        have g1 : wa.cell? ⟨Bw, t - 15, none⟩ = some (.int .u32 (Sha.wv (t - 15))) := by
          rw [HR.out.bW.cell, Sha.wCells_get (by omega), if_pos (by omega)]
        have g2 : wa.cell? ⟨Bw, t - 7, none⟩ = some (.int .u32 (Sha.wv (t - 7))) := by
          rw [HR.out.bW.cell, Sha.wCells_get (by omega), if_pos (by omega)]
        have g3 : wa.cell? ⟨Bw, t - 2, none⟩ = some (.int .u32 (Sha.wv (t - 2))) := by
          rw [HR.out.bW.cell, Sha.wCells_get (by omega), if_pos (by omega)]
        have HW := Lib.hid (Sha.wv_high (t := t) (by omega))
        obtain ⟨x0, hx0⟩ : ∃ x, x = Sha.wv (t - 16) := ⟨_, rfl⟩
        obtain ⟨x1, hx1⟩ : ∃ x, x = Sha.wv (t - 15) := ⟨_, rfl⟩
        obtain ⟨x2, hx2⟩ : ∃ x, x = Sha.wv (t - 7) := ⟨_, rfl⟩
        obtain ⟨x3, hx3⟩ : ∃ x, x = Sha.wv (t - 2) := ⟨_, rfl⟩
        rw [← hx0] at g0
        rw [← hx1] at g1
        rw [← hx2] at g2
        rw [← hx3] at g3
        have HX := Lib.hid (show Sha.wv t = Sha.wNew x0 x1 x2 x3 from by rw [HW.out, hx0, hx1, hx2, hx3])
        have p1 : IntKind.i64.wrap ((t : Int) - 16) = (t : Int) - 16 := IntWalk.i64_in _ (by omega)
        have p2 : IntKind.i64.wrap ((t : Int) - 15) = (t : Int) - 15 := IntWalk.i64_in _ (by omega)
        have p3 : IntKind.i64.wrap ((t : Int) - 7) = (t : Int) - 7 := IntWalk.i64_in _ (by omega)
        have p4 : IntKind.i64.wrap ((t : Int) - 2) = (t : Int) - 2 := IntWalk.i64_in _ (by omega)
        have a1 : (0 : Int) ≤ (t : Int) - 16 := by omega
        have a2 : (0 : Int) ≤ (t : Int) - 15 := by omega
        have a3 : (0 : Int) ≤ (t : Int) - 7 := by omega
        have a4 : (0 : Int) ≤ (t : Int) - 2 := by omega
        have b1 : (t : Int) - 16 < 64 := by omega
        have b2 : (t : Int) - 15 < 64 := by omega
        have b3 : (t : Int) - 7 < 64 := by omega
        have b4 : (t : Int) - 2 < 64 := by omega
        have d1 : ((t : Int) - 16).toNat = t - 16 := by omega
        have d2 : ((t : Int) - 15).toNat = t - 15 := by omega
        have d3 : ((t : Int) - 7).toNat = t - 7 := by omega
        have d4 : ((t : Int) - 2).toNat = t - 2 := by omega
        clear hx0 hx1 hx2 hx3
        go_wp2
        go_quiet (fail)
        obtain ⟨m1, hm1⟩ : ∃ m, m = nq := ⟨_, rfl⟩
        subst hm1
        have HR4 := Lib.hid (HR.out.drewN m1)
        obtain ⟨w3, hw3⟩ : ∃ x, x = wa.drewN m1 := ⟨_, rfl⟩
        have k0 : w3.cell? ⟨Bw, t - 16, none⟩ = some (.int .u32 x0) := by rw [hw3]; exact g0
        have k2 : w3.cell? ⟨Bw, t - 7, none⟩ = some (.int .u32 x2) := by rw [hw3]; exact g2
        have kt : w3.cell? ⟨Bw, t, none⟩ = some (.int .u32 0) := by rw [hw3]; exact gt
        have kf : ∀ j, w3.frozen? ⟨Bw, j, none⟩ = false := by rw [hw3]; exact gf
        have kl : Bw < w3.heap.size := by rw [hw3]; exact gl
        rw [← hw3] at HR4 ⊢
        clear hw3 g0 g1 g2 g3 gt gf gl
        have e1 : (7 : Int) ≤ (t : Int) := by omega
        have e2 : (16 : Int) ≤ (t : Int) := by omega
        have e3 : (t : Int) < 71 := by omega
        have e4 : (t : Int) < 80 := by omega
        go_wp2
        go_region_held3 (fun w' => w'.cell? ⟨Bw, t - 16, none⟩ = some (.int .u32 x0) ∧ w'.cell? ⟨Bw, t - 7, none⟩ = some (.int .u32 x2))
          (first | exact ⟨k0, k2⟩ | go_keep | exact ⟨(World.cell?_setCell_ne' _ _ _ _ _ (by omega)).trans k0, (World.cell?_setCell_ne' _ _ _ _ _ (by omega)).trans k2⟩)
          (first | (go_at_call 157; refine (r2_r _ _ (by unfold tnOK; simp) _).mono ?_; rintro e w' ⟨rfl, nq', rfl⟩))
        all_goals
          go_wp2
          go_roundw
          case rel =>
            refine ⟨t + 1, by omega, by go_num, ?_⟩
            refine RG.setW (RG.drewN HR4.out _) t _ ?_
            rw [← Sha.wCells_set, HX.out, ← Sha.wNew_eq2]
            try simp only [IntKind.wrap_u32]
            rfl
          case measure => simp [intOf]; omega
    · obtain rfl : t = 64 := by omega
      obtain ⟨fs, hfs⟩ : ∃ fs : Sha.St, fs = ⟨f0, f1, f2, f3, f4, f5, f6, f7⟩ := ⟨_, rfl⟩
      have q0 : wa.cell? ⟨w.heap.size, 0, none⟩ = some (.int .u32 f0) := HR.out.bF.cell 0
      have q1 : wa.cell? ⟨w.heap.size, 1, none⟩ = some (.int .u32 f1) := HR.out.bF.cell 1
      have q2 : wa.cell? ⟨w.heap.size, 2, none⟩ = some (.int .u32 f2) := HR.out.bF.cell 2
      have q3 : wa.cell? ⟨w.heap.size, 3, none⟩ = some (.int .u32 f3) := HR.out.bF.cell 3
      have q4 : wa.cell? ⟨w.heap.size, 4, none⟩ = some (.int .u32 f4) := HR.out.bF.cell 4
      have q5 : wa.cell? ⟨w.heap.size, 5, none⟩ = some (.int .u32 f5) := HR.out.bF.cell 5
      have q6 : wa.cell? ⟨w.heap.size, 6, none⟩ = some (.int .u32 f6) := HR.out.bF.cell 6
      have q7 : wa.cell? ⟨w.heap.size, 7, none⟩ = some (.int .u32 f7) := HR.out.bF.cell 7
      have HFS := Lib.hid hfs
      clear hfs
      simp only [show ((64 : Nat) : Int) = 64 from rfl]
      go_wp2
      go_quiet (fail)
      obtain ⟨m1, hm1⟩ : ∃ m, m = nq := ⟨_, rfl⟩
      subst hm1
      have HR1 := Lib.hid (HR.out.drewN m1)
      obtain ⟨w3, hw3⟩ : ∃ x, x = wa.drewN m1 := ⟨_, rfl⟩
      rw [← hw3] at HR1 ⊢
      clear hw3 q0 q1 q2 q3 q4 q5 q6 q7 HR
      go_wp2
      go_loopw [10, 11, 12, 13, 14, 15, 16, 17, 18] (fun v10 v11 v12 v13 v14 v15 v16 v17 v18 wr => ∃ (k : Nat) (s : Sha.St), k ≤ 64 ∧ v18 = .int .i64 k ∧ s = Sha.stN (rootV true) fs k ∧ v10 = .int .u32 s.a ∧ v11 = .int .u32 s.b ∧ v12 = .int .u32 s.c ∧ v13 = .int .u32 s.d ∧
          v14 = .int .u32 s.e ∧ v15 = .int .u32 s.f ∧ v16 = .int .u32 s.g ∧ v17 = .int .u32 s.h ∧ RG w wr Bk Bw [.int .u32 f0, .int .u32 f1, .int .u32 f2, .int .u32 f3, .int .u32 f4, .int .u32 f5, .int .u32 f6, .int .u32 f7] (Sha.wCells 64))
        (fun _ _ _ _ _ _ _ _ v18 _ => 64 - (intOf v18).toNat)
      case atStart => exact ⟨0, ⟨f0, f1, f2, f3, f4, f5, f6, f7⟩, by omega, rfl, HFS.out.symm, rfl, rfl, rfl, rfl, rfl, rfl, rfl, rfl, HR1.out⟩
      case round =>
        clear HR1
        obtain ⟨k, s, hk, rfl, hs, rfl, rfl, rfl, rfl, rfl, rfl, rfl, rfl, hR⟩ := hrel
        have HS1 := Lib.hid hs
        have HR2 := Lib.hid hR
        clear hs hR
        obtain ⟨a, b, c, d, e, f, g, hh⟩ := s
        simp only
        by_cases hlt2 : k < 64
        · have i64 : (k : Int) < 64 := by omega
          have qk : wr.cell? ⟨Bk, k, none⟩ = some (.int .u32 (rootV true k)) := by
            rw [HR2.out.bK.cell]; unfold rootC; rw [Sha.cellsF_get hlt2, if_pos hlt2]
          have qw : wr.cell? ⟨Bw, k, none⟩ = some (.int .u32 (Sha.wv k)) := by
            rw [HR2.out.bW.cell, Sha.wCells_get hlt2, if_pos hlt2]
          obtain ⟨kt, hkt⟩ : ∃ x, x = rootV true k := ⟨_, rfl⟩
          obtain ⟨wt, hwt⟩ : ∃ x, x = Sha.wv k := ⟨_, rfl⟩
          rw [← hkt] at qk
          rw [← hwt] at qw
          have HKT := Lib.hid hkt
          have HWT := Lib.hid hwt
          clear hkt hwt
          go_wp2
          go_quiet ((go_at_call 157; exact Calls.quiet_of (r2_r _ _ (by unfold tnOK; simp) _)))
          obtain ⟨m2, hm2⟩ : ∃ m, m = nq := ⟨_, rfl⟩
          subst hm2
          go_upto_region 15 with fail
          generalize ho1 : ((hh + bits BinOp.xor IntKind.u32 (bits BinOp.xor IntKind.u32 (Sha.tnI 6 e) (Sha.tnI 11 e)) (Sha.tnI 25 e) + bits BinOp.xor IntKind.u32 (bits BinOp.and IntKind.u32 e f) (bits BinOp.and IntKind.u32 (bits BinOp.xor IntKind.u32 (if IntKind.u32.signed = true then -1 else IntKind.u32.max) e) g) + kt) % 4294967296 + wt) % 4294967296 = o2
          have HO2 := Lib.hid ho1
          clear ho1
          go_wp2_with fail
          refine (r2_r 2 a (by unfold tnOK; simp) _).mono ?_; rintro e' w' ⟨rfl, n4, rfl⟩
          obtain ⟨z2, h2⟩ : ∃ z, z = Sha.tnI 2 a := ⟨_, rfl⟩
          rw [← h2]; have H2 := Lib.hid h2; clear h2
          go_wp2_with fail
          refine (r2_r 13 a (by unfold tnOK; simp) _).mono ?_; rintro e' w' ⟨rfl, n5, rfl⟩
          obtain ⟨z13, h13⟩ : ∃ z, z = Sha.tnI 13 a := ⟨_, rfl⟩
          rw [← h13]; have H13 := Lib.hid h13; clear h13
          go_wp2_with fail
          refine (r2_r 22 a (by unfold tnOK; simp) _).mono ?_; rintro e' w' ⟨rfl, n6, rfl⟩
          obtain ⟨z22, h22⟩ : ∃ z, z = Sha.tnI 22 a := ⟨_, rfl⟩
          rw [← h22]; have H22 := Lib.hid h22; clear h22
          go_upto_region 16 with fail
          generalize ho3 : (bits BinOp.xor IntKind.u32 (bits BinOp.xor IntKind.u32 z2 z13) z22 + bits BinOp.xor IntKind.u32 (bits BinOp.xor IntKind.u32 (bits BinOp.and IntKind.u32 a b) (bits BinOp.and IntKind.u32 a c)) (bits BinOp.and IntKind.u32 b c)) % 4294967296 = o3
          have HO3 := Lib.hid ho3
          clear ho3
          have hst : (⟨(o2 + o3) % 4294967296, a, b, c, (d + o2) % 4294967296, e, f, g⟩ : Sha.St) = Sha.stN (rootV true) fs (k + 1) := by
            rw [Sha.stN, ← HS1.out, ← HKT.out, ← HWT.out]
            have e1 : o2 = (hh + kt + wt + Sha.bigS1 e + Sha.chI e f g) % 4294967296 := by
              rw [← HO2.out]
              exact Sha.one_eq2 hh kt wt (Sha.bigS1 e) (Sha.chI e f g)
            have e2 : o3 = (Sha.bigS0 a + Sha.maj a b c) % 4294967296 := by
              rw [← HO3.out, H2.out, H13.out, H22.out]
              rfl
            unfold Sha.stp
            rw [← e1, ← e2]
          have HST := Lib.hid hst
          clear hst qk qw
          go_wp2
          go_roundw
          case rel =>
            exact ⟨k + 1, _, by omega, by go_num, HST.out, rfl, rfl, rfl, rfl, rfl, rfl, rfl, rfl, HR2.out.drewN _⟩
          case measure => simp [intOf]; omega
        · obtain rfl : k = 64 := by omega
          simp only [show ((64 : Nat) : Int) = 64 from rfl]
          have hres : Sha.sumS ⟨a, b, c, d, e, f, g, hh⟩ fs = Sha.round (rootV true) ⟨f0, f1, f2, f3, f4, f5, f6, f7⟩ := by
            unfold Sha.round; rw [HS1.out, HFS.out]
          rw [HFS.out] at hres
          have HRES := Lib.hid hres
          clear hres
          have q0 : wr.cell? ⟨w.heap.size, 0, none⟩ = some (.int .u32 f0) := HR2.out.bF.cell 0
          have q1 : wr.cell? ⟨w.heap.size, 1, none⟩ = some (.int .u32 f1) := HR2.out.bF.cell 1
          have q2 : wr.cell? ⟨w.heap.size, 2, none⟩ = some (.int .u32 f2) := HR2.out.bF.cell 2
          have q3 : wr.cell? ⟨w.heap.size, 3, none⟩ = some (.int .u32 f3) := HR2.out.bF.cell 3
          have q4 : wr.cell? ⟨w.heap.size, 4, none⟩ = some (.int .u32 f4) := HR2.out.bF.cell 4
          have q5 : wr.cell? ⟨w.heap.size, 5, none⟩ = some (.int .u32 f5) := HR2.out.bF.cell 5
          have q6 : wr.cell? ⟨w.heap.size, 6, none⟩ = some (.int .u32 f6) := HR2.out.bF.cell 6
          have q7 : wr.cell? ⟨w.heap.size, 7, none⟩ = some (.int .u32 f7) := HR2.out.bF.cell 7
          have hres2 : (⟨(f0 + a) % 4294967296, (f1 + b) % 4294967296, (f2 + c) % 4294967296, (f3 + d) % 4294967296, (f4 + e) % 4294967296, (f5 + f) % 4294967296, (f6 + g) % 4294967296, (f7 + hh) % 4294967296⟩ : Sha.St) = Sha.round (rootV true) ⟨f0, f1, f2, f3, f4, f5, f6, f7⟩ := by
            rw [← HRES.out]
            unfold Sha.sumS
            simp only [Int.add_comm]
          have HRES2 := Lib.hid hres2
          have HBR := Lib.hid HR2.out.bR
          have x0 : wr.cell? ⟨w.heap.size + 1 + 1, 0, none⟩ = some (.int .u32 0) := HBR.out.cell 0
          have x1 : wr.cell? ⟨w.heap.size + 1 + 1, 1, none⟩ = some (.int .u32 0) := HBR.out.cell 1
          have x2 : wr.cell? ⟨w.heap.size + 1 + 1, 2, none⟩ = some (.int .u32 0) := HBR.out.cell 2
          have x3 : wr.cell? ⟨w.heap.size + 1 + 1, 3, none⟩ = some (.int .u32 0) := HBR.out.cell 3
          have x4 : wr.cell? ⟨w.heap.size + 1 + 1, 4, none⟩ = some (.int .u32 0) := HBR.out.cell 4
          have x5 : wr.cell? ⟨w.heap.size + 1 + 1, 5, none⟩ = some (.int .u32 0) := HBR.out.cell 5
          have x6 : wr.cell? ⟨w.heap.size + 1 + 1, 6, none⟩ = some (.int .u32 0) := HBR.out.cell 6
          have x7 : wr.cell? ⟨w.heap.size + 1 + 1, 7, none⟩ = some (.int .u32 0) := HBR.out.cell 7
          have xf : ∀ j, wr.frozen? ⟨w.heap.size + 1 + 1, j, none⟩ = false := fun j => HBR.out.frozen j
          have xl := HBR.out.lt
          clear hres2 HRES
          go_wp2
          exact bodyPost_ret (results_cell8 rfl _ _ (w.heap.size + 1 + 1) _ _ _ _ _ _ _ _ rfl ((((((((HBR.out.set 0 _).set 1 _).set 2 _).set 3 _).set 4 _).set 5 _).set 6 _).set 7 _)) rfl ⟨congrArg (fun s => Ending.returned (.agg (Sha.St.cells s).toArray)) HRES2.out, ((((((((HR2.out.chg.setCell _ _ (by simp; omega)).setCell _ _ (by simp; omega)).setCell _ _ (by simp; omega)).setCell _ _ (by simp; omega)).setCell _ _ (by simp; omega)).setCell _ _ (by simp; omega)).setCell _ _ (by simp; omega)).setCell _ _ (by simp; omega))⟩
end Go.Proofs.YtfdhgakalojahaaGreatDoor

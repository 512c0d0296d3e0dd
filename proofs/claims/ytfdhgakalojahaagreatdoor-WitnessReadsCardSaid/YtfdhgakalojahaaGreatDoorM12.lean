/- WALKS: the program's layer 2: words turned. WALKS: the program's layer 2: a block of SHA-256. WALKS: the program's layer 2: the digest of nothing. -/
import Derived.Outline
import Derived.Deep.RegionWith
import Derived.Deep.DeepCutAuto
import Derived.StillTailTactics
import Derived.BigQuiet
import Derived.Deep.QuietTactic
import Derived.Test.YtfdhgakalojahaaGreatDoorM10
import Derived.Test.YtfdhgakalojahaaGreatDoorM06
import Derived.Test.YtfdhgakalojahaaGreatDoorM02
set_option linter.unusedSimpArgs false
set_option linter.unusedVariables false
set_option linter.unnecessarySimpa false
set_option linter.unusedSectionVars false
namespace Go.Proofs.YtfdhgakalojahaaGreatDoor
open Go Go.RowKit

set_option maxRecDepth 100000 in
theorem sha_turned7 (x : Int) (w : World) :
    Calls Tryz.prog 139 #[.int .u32 x, .int .i64 7] w fun e w' => e = .returned (.int .u32 (Sha.turnI 128 33554432 x)) ∧ ∃ nq, w' = w.drewN nq := by
  go_enter Tryz.func139, Tryz.ntmps139
  go_wp2
  go_quiet (fail)
  go_wp2
  go_ret
  exact ⟨rfl, _, rfl⟩
set_option maxRecDepth 100000 in
theorem r2_r7 (x : Int) (w : World) :
    Calls Tryz.prog 157 #[.int .u32 x, .int .i64 7] w fun e w' => e = .returned (.int .u32 (Sha.turnI 128 33554432 x)) ∧ ∃ nq, w' = w.drewN nq := by
  go_enter Tryz.func157, Tryz.ntmps157
  go_wp2
  go_quiet (fail)
  go_wp2
  go_ret
  exact ⟨rfl, _, rfl⟩
set_option maxRecDepth 100000 in
theorem sha_turned18 (x : Int) (w : World) :
    Calls Tryz.prog 139 #[.int .u32 x, .int .i64 18] w fun e w' => e = .returned (.int .u32 (Sha.turnI 262144 16384 x)) ∧ ∃ nq, w' = w.drewN nq := by
  go_enter Tryz.func139, Tryz.ntmps139
  go_wp2
  go_quiet (fail)
  go_wp2
  go_ret
  exact ⟨rfl, _, rfl⟩
set_option maxRecDepth 100000 in
theorem r2_r18 (x : Int) (w : World) :
    Calls Tryz.prog 157 #[.int .u32 x, .int .i64 18] w fun e w' => e = .returned (.int .u32 (Sha.turnI 262144 16384 x)) ∧ ∃ nq, w' = w.drewN nq := by
  go_enter Tryz.func157, Tryz.ntmps157
  go_wp2
  go_quiet (fail)
  go_wp2
  go_ret
  exact ⟨rfl, _, rfl⟩
set_option maxRecDepth 100000 in
theorem sha_turned17 (x : Int) (w : World) :
    Calls Tryz.prog 139 #[.int .u32 x, .int .i64 17] w fun e w' => e = .returned (.int .u32 (Sha.turnI 131072 32768 x)) ∧ ∃ nq, w' = w.drewN nq := by
  go_enter Tryz.func139, Tryz.ntmps139
  go_wp2
  go_quiet (fail)
  go_wp2
  go_ret
  exact ⟨rfl, _, rfl⟩
set_option maxRecDepth 100000 in
theorem r2_r17 (x : Int) (w : World) :
    Calls Tryz.prog 157 #[.int .u32 x, .int .i64 17] w fun e w' => e = .returned (.int .u32 (Sha.turnI 131072 32768 x)) ∧ ∃ nq, w' = w.drewN nq := by
  go_enter Tryz.func157, Tryz.ntmps157
  go_wp2
  go_quiet (fail)
  go_wp2
  go_ret
  exact ⟨rfl, _, rfl⟩
set_option maxRecDepth 100000 in
theorem sha_turned19 (x : Int) (w : World) :
    Calls Tryz.prog 139 #[.int .u32 x, .int .i64 19] w fun e w' => e = .returned (.int .u32 (Sha.turnI 524288 8192 x)) ∧ ∃ nq, w' = w.drewN nq := by
  go_enter Tryz.func139, Tryz.ntmps139
  go_wp2
  go_quiet (fail)
  go_wp2
  go_ret
  exact ⟨rfl, _, rfl⟩
set_option maxRecDepth 100000 in
theorem r2_r19 (x : Int) (w : World) :
    Calls Tryz.prog 157 #[.int .u32 x, .int .i64 19] w fun e w' => e = .returned (.int .u32 (Sha.turnI 524288 8192 x)) ∧ ∃ nq, w' = w.drewN nq := by
  go_enter Tryz.func157, Tryz.ntmps157
  go_wp2
  go_quiet (fail)
  go_wp2
  go_ret
  exact ⟨rfl, _, rfl⟩
set_option maxRecDepth 100000 in
theorem sha_turned6 (x : Int) (w : World) :
    Calls Tryz.prog 139 #[.int .u32 x, .int .i64 6] w fun e w' => e = .returned (.int .u32 (Sha.turnI 64 67108864 x)) ∧ ∃ nq, w' = w.drewN nq := by
  go_enter Tryz.func139, Tryz.ntmps139
  go_wp2
  go_quiet (fail)
  go_wp2
  go_ret
  exact ⟨rfl, _, rfl⟩
set_option maxRecDepth 100000 in
theorem r2_r6 (x : Int) (w : World) :
    Calls Tryz.prog 157 #[.int .u32 x, .int .i64 6] w fun e w' => e = .returned (.int .u32 (Sha.turnI 64 67108864 x)) ∧ ∃ nq, w' = w.drewN nq := by
  go_enter Tryz.func157, Tryz.ntmps157
  go_wp2
  go_quiet (fail)
  go_wp2
  go_ret
  exact ⟨rfl, _, rfl⟩
set_option maxRecDepth 100000 in
theorem sha_turned11 (x : Int) (w : World) :
    Calls Tryz.prog 139 #[.int .u32 x, .int .i64 11] w fun e w' => e = .returned (.int .u32 (Sha.turnI 2048 2097152 x)) ∧ ∃ nq, w' = w.drewN nq := by
  go_enter Tryz.func139, Tryz.ntmps139
  go_wp2
  go_quiet (fail)
  go_wp2
  go_ret
  exact ⟨rfl, _, rfl⟩
set_option maxRecDepth 100000 in
theorem r2_r11 (x : Int) (w : World) :
    Calls Tryz.prog 157 #[.int .u32 x, .int .i64 11] w fun e w' => e = .returned (.int .u32 (Sha.turnI 2048 2097152 x)) ∧ ∃ nq, w' = w.drewN nq := by
  go_enter Tryz.func157, Tryz.ntmps157
  go_wp2
  go_quiet (fail)
  go_wp2
  go_ret
  exact ⟨rfl, _, rfl⟩
set_option maxRecDepth 100000 in
theorem sha_turned25 (x : Int) (w : World) :
    Calls Tryz.prog 139 #[.int .u32 x, .int .i64 25] w fun e w' => e = .returned (.int .u32 (Sha.turnI 33554432 128 x)) ∧ ∃ nq, w' = w.drewN nq := by
  go_enter Tryz.func139, Tryz.ntmps139
  go_wp2
  go_quiet (fail)
  go_wp2
  go_ret
  exact ⟨rfl, _, rfl⟩
set_option maxRecDepth 100000 in
theorem r2_r25 (x : Int) (w : World) :
    Calls Tryz.prog 157 #[.int .u32 x, .int .i64 25] w fun e w' => e = .returned (.int .u32 (Sha.turnI 33554432 128 x)) ∧ ∃ nq, w' = w.drewN nq := by
  go_enter Tryz.func157, Tryz.ntmps157
  go_wp2
  go_quiet (fail)
  go_wp2
  go_ret
  exact ⟨rfl, _, rfl⟩
set_option maxRecDepth 100000 in
theorem sha_turned2 (x : Int) (w : World) :
    Calls Tryz.prog 139 #[.int .u32 x, .int .i64 2] w fun e w' => e = .returned (.int .u32 (Sha.turnI 4 1073741824 x)) ∧ ∃ nq, w' = w.drewN nq := by
  go_enter Tryz.func139, Tryz.ntmps139
  go_wp2
  go_quiet (fail)
  go_wp2
  go_ret
  exact ⟨rfl, _, rfl⟩
set_option maxRecDepth 100000 in
theorem r2_r2 (x : Int) (w : World) :
    Calls Tryz.prog 157 #[.int .u32 x, .int .i64 2] w fun e w' => e = .returned (.int .u32 (Sha.turnI 4 1073741824 x)) ∧ ∃ nq, w' = w.drewN nq := by
  go_enter Tryz.func157, Tryz.ntmps157
  go_wp2
  go_quiet (fail)
  go_wp2
  go_ret
  exact ⟨rfl, _, rfl⟩
set_option maxRecDepth 100000 in
theorem sha_turned13 (x : Int) (w : World) :
    Calls Tryz.prog 139 #[.int .u32 x, .int .i64 13] w fun e w' => e = .returned (.int .u32 (Sha.turnI 8192 524288 x)) ∧ ∃ nq, w' = w.drewN nq := by
  go_enter Tryz.func139, Tryz.ntmps139
  go_wp2
  go_quiet (fail)
  go_wp2
  go_ret
  exact ⟨rfl, _, rfl⟩
set_option maxRecDepth 100000 in
theorem r2_r13 (x : Int) (w : World) :
    Calls Tryz.prog 157 #[.int .u32 x, .int .i64 13] w fun e w' => e = .returned (.int .u32 (Sha.turnI 8192 524288 x)) ∧ ∃ nq, w' = w.drewN nq := by
  go_enter Tryz.func157, Tryz.ntmps157
  go_wp2
  go_quiet (fail)
  go_wp2
  go_ret
  exact ⟨rfl, _, rfl⟩
set_option maxRecDepth 100000 in
theorem sha_turned22 (x : Int) (w : World) :
    Calls Tryz.prog 139 #[.int .u32 x, .int .i64 22] w fun e w' => e = .returned (.int .u32 (Sha.turnI 4194304 1024 x)) ∧ ∃ nq, w' = w.drewN nq := by
  go_enter Tryz.func139, Tryz.ntmps139
  go_wp2
  go_quiet (fail)
  go_wp2
  go_ret
  exact ⟨rfl, _, rfl⟩
set_option maxRecDepth 100000 in
theorem r2_r22 (x : Int) (w : World) :
    Calls Tryz.prog 157 #[.int .u32 x, .int .i64 22] w fun e w' => e = .returned (.int .u32 (Sha.turnI 4194304 1024 x)) ∧ ∃ nq, w' = w.drewN nq := by
  go_enter Tryz.func157, Tryz.ntmps157
  go_wp2
  go_quiet (fail)
  go_wp2
  go_ret
  exact ⟨rfl, _, rfl⟩

def tnOK (i : Int) : Prop := i = 7 ∨ i = 18 ∨ i = 17 ∨ i = 19 ∨ i = 6 ∨ i = 11 ∨ i = 25 ∨ i = 2 ∨ i = 13 ∨ i = 22

theorem sha_turned (i x : Int) (hi : tnOK i) (w : World) : Calls Tryz.prog 139 #[.int .u32 x, .int .i64 i] w fun e w' => e = .returned (.int .u32 (Sha.tnI i x)) ∧ ∃ nq, w' = w.drewN nq := by
  rcases hi with rfl | rfl | rfl | rfl | rfl | rfl | rfl | rfl | rfl | rfl
  · rw [Sha.tnI_7]; exact sha_turned7 x w
  · rw [Sha.tnI_18]; exact sha_turned18 x w
  · rw [Sha.tnI_17]; exact sha_turned17 x w
  · rw [Sha.tnI_19]; exact sha_turned19 x w
  · rw [Sha.tnI_6]; exact sha_turned6 x w
  · rw [Sha.tnI_11]; exact sha_turned11 x w
  · rw [Sha.tnI_25]; exact sha_turned25 x w
  · rw [Sha.tnI_2]; exact sha_turned2 x w
  · rw [Sha.tnI_13]; exact sha_turned13 x w
  · rw [Sha.tnI_22]; exact sha_turned22 x w

theorem r2_r (i x : Int) (hi : tnOK i) (w : World) : Calls Tryz.prog 157 #[.int .u32 x, .int .i64 i] w fun e w' => e = .returned (.int .u32 (Sha.tnI i x)) ∧ ∃ nq, w' = w.drewN nq := by
  rcases hi with rfl | rfl | rfl | rfl | rfl | rfl | rfl | rfl | rfl | rfl
  · rw [Sha.tnI_7]; exact r2_r7 x w
  · rw [Sha.tnI_18]; exact r2_r18 x w
  · rw [Sha.tnI_17]; exact r2_r17 x w
  · rw [Sha.tnI_19]; exact r2_r19 x w
  · rw [Sha.tnI_6]; exact r2_r6 x w
  · rw [Sha.tnI_11]; exact r2_r11 x w
  · rw [Sha.tnI_25]; exact r2_r25 x w
  · rw [Sha.tnI_2]; exact r2_r2 x w
  · rw [Sha.tnI_13]; exact r2_r13 x w
  · rw [Sha.tnI_22]; exact r2_r22 x w

end Go.Proofs.YtfdhgakalojahaaGreatDoor

namespace Go.Proofs.YtfdhgakalojahaaGreatDoor
open Go Go.RowKit

/-- what stands in memory while a block is done: the state, the block, the result, the words -/
structure RF (w wr : World) (fl wl : List Value) : Prop where
  chg : Chg w wr []
  bF : Blk wr w.heap.size fl 213
  bB : Blk wr (w.heap.size + 1) Sha.bCells 223
  bR : Blk wr (w.heap.size + 1 + 1) (List.replicate 8 (.int .u32 0)) 213
  bW : Blk wr (w.heap.size + 1 + 1 + 1) wl 238

theorem RF.start (w : World) (fl : List Value) :
    RF w ((((w.alloc (.cells fl.toArray 213)).alloc (.cells Sha.bCells.toArray 223)).alloc (.cells (List.replicate 8 (.int .u32 0)).toArray 213)).alloc (.cells (List.replicate 64 (.int .u32 0)).toArray 238)) fl (Sha.wCells 0) := by
  rw [Sha.wCells_zero]
  have h1 := Blk.new w fl 213
  have h2 := Blk.new (w.alloc (.cells fl.toArray 213)) Sha.bCells 223
  have h3 := Blk.new ((w.alloc (.cells fl.toArray 213)).alloc (.cells Sha.bCells.toArray 223)) (List.replicate 8 (.int .u32 0)) 213
  have h4 := Blk.new (((w.alloc (.cells fl.toArray 213)).alloc (.cells Sha.bCells.toArray 223)).alloc (.cells (List.replicate 8 (.int .u32 0)).toArray 213)) (List.replicate 64 (.int .u32 0)) 238
  simp only [World.size_alloc] at h2 h3 h4
  exact ⟨by (repeat (first | exact Chg.refl _ _ | with_reducible refine Chg.drewN ?_ _ | with_reducible refine Chg.drew ?_ | with_reducible refine Chg.alloc ?_ _ | with_reducible refine Chg.setCell ?_ _ _ (by simp) | with_reducible refine Chg.setCell ?_ _ _ (by simp; omega))), ((h1.alloc _).alloc _).alloc _, (h2.alloc _).alloc _, h3.alloc _, h4⟩

theorem RF.setW {w wr : World} {fl wl : List Value} (h : RF w wr fl wl) (j : Nat) (v : Value) : RF w (wr.setCell ⟨w.heap.size + 1 + 1 + 1, j, none⟩ v) fl (wl.set j v) :=
  ⟨h.chg.setCell _ _ (by simp; omega), h.bF.set_other _ _ (by simp; omega), h.bB.set_other _ _ (by simp; omega), h.bR.set_other _ _ (by simp), h.bW.set j v⟩

theorem RF.drewN {w wr : World} {fl wl : List Value} (h : RF w wr fl wl) (n : Nat) : RF w (wr.drewN n) fl wl := ⟨h.chg.drewN n, h.bF.drewN n, h.bB.drewN n, h.bR.drewN n, h.bW.drewN n⟩

theorem RF.drew {w wr : World} {fl wl : List Value} (h : RF w wr fl wl) : RF w wr.drew fl wl := ⟨h.chg.drew, h.bF.drew, h.bB.drew, h.bR.drew, h.bW.drew⟩

theorem RF.setS {w wr : World} {fl wl : List Value} (h : RF w wr fl wl) {S : Nat} (hS : w.heap.size + 1 + 1 + 1 < S) (j : Nat) (v : Value) : RF w (wr.setCell ⟨S, j, none⟩ v) fl wl :=
  ⟨h.chg.setCell _ _ (by simp; omega), h.bF.set_other _ _ (by simp; omega), h.bB.set_other _ _ (by simp; omega), h.bR.set_other _ _ (by simp; omega), h.bW.set_other _ _ (by simp; omega)⟩

theorem results_cell8 {fn : Func} {a : Tmp} (h : fn.results = #[.cell a 213]) (tmps : Array Value) (w : World) (B : Nat) (r0 r1 r2 r3 r4 r5 r6 r7 : Int) (hp : tmps.getD a undef = .pointer (some ⟨B, 0, none⟩))
    (hB : Blk w B [.int .u32 r0, .int .u32 r1, .int .u32 r2, .int .u32 r3, .int .u32 r4, .int .u32 r5, .int .u32 r6, .int .u32 r7] 213) :
    (results fn tmps).run Tryz.prog w = .ok (.agg #[.int .u32 r0, .int .u32 r1, .int .u32 r2, .int .u32 r3, .int .u32 r4, .int .u32 r5, .int .u32 r6, .int .u32 r7]) w := by
  have c0 := hB.cell 0
  have c1 := hB.cell 1
  have c2 := hB.cell 2
  have c3 := hB.cell 3
  have c4 := hB.cell 4
  have c5 := hB.cell 5
  have c6 := hB.cell 6
  have c7 := hB.cell 7
  simp only [List.getElem?_cons_zero, List.getElem?_cons_succ] at c0 c1 c2 c3 c4 c5 c6 c7
  clear hB
  simp only [Array.getD_eq_getD_getElem?] at hp
  simp [results, h, go_sem, hp, c0, c1, c2, c3, c4, c5, c6, c7]

theorem RF.setW' {w wr : World} {fl wl wl' : List Value} (h : RF w wr fl wl) (j : Nat) (v : Value) (he : wl.set j v = wl') : RF w (wr.setCell ⟨w.heap.size + 1 + 1 + 1, j, none⟩ v) fl wl' := he ▸ h.setW j v

set_option maxRecDepth 100000 in
set_option maxHeartbeats 16000000 in
theorem sha_Round (K : Nat → Int) (f0 f1 f2 f3 f4 f5 f6 f7 : Int) (w : World) (hK : ∀ j, j < 64 → w.cell? ⟨2, j, none⟩ = some (.int .u32 (K j))) :
    Calls Tryz.prog 121 #[.agg #[.int .u32 f0, .int .u32 f1, .int .u32 f2, .int .u32 f3, .int .u32 f4, .int .u32 f5, .int .u32 f6, .int .u32 f7], .agg Sha.bCells.toArray] w fun e w' => e = .returned (.agg (Sha.round K ⟨f0, f1, f2, f3, f4, f5, f6, f7⟩).cells.toArray) ∧ Chg w w' [] := by
  have HK := Lib.hid hK
  clear hK
  have hcb : (Value.agg Sha.bCells.toArray).cells = Sha.bCells.toArray := by unfold Sha.bCells; simp [Value.cells]
  have HS := Lib.hid (RF.start w [.int .u32 f0, .int .u32 f1, .int .u32 f2, .int .u32 f3, .int .u32 f4, .int .u32 f5, .int .u32 f6, .int .u32 f7])
  go_enter Tryz.func121, Tryz.ntmps121
  go_wp2
  go_loopw [21] (fun i wr => ∃ t : Nat, t ≤ 64 ∧ i = .int .i64 t ∧ RF w wr [.int .u32 f0, .int .u32 f1, .int .u32 f2, .int .u32 f3, .int .u32 f4, .int .u32 f5, .int .u32 f6, .int .u32 f7] (Sha.wCells t))
    (fun i _ => 64 - (intOf i).toNat)
  case atStart => exact ⟨0, by omega, rfl, HS.out⟩
  case round =>
    obtain ⟨wa, hwa⟩ : ∃ x, x = wr := ⟨_, rfl⟩
    subst hwa
    obtain ⟨t, ht, rfl, hR⟩ := hrel
    have HR := Lib.hid hR
    clear hR
    by_cases hlt : t < 64
    · by_cases h16 : t < 16
      · have e64 : decide ((t : Int) < 64) = true := by simp; omega
        have e16 : decide ((t : Int) < 16) = true := by simp; omega
        go_wp2
        clear e64 e16
        have i64 : (t : Int) < 64 := by omega
        go_loopw [26] (fun i wr => ∃ k : Nat, k ≤ 4 ∧ i = .int .i64 k ∧ RF w wr [.int .u32 f0, .int .u32 f1, .int .u32 f2, .int .u32 f3, .int .u32 f4, .int .u32 f5, .int .u32 f6, .int .u32 f7] ((Sha.wCells t).set t (.int .u32 (Sha.wk t k))))
          (fun i _ => 4 - (intOf i).toNat)
        case atStart => exact ⟨0, by omega, rfl, by rw [Sha.wCells_start]; exact HR.out⟩
        case round =>
          obtain ⟨k, hk, rfl, hR2⟩ := hrel
          have HR2 := Lib.hid hR2
          by_cases hk4 : k < 4
          · have c1 : wr.cell? ⟨w.heap.size + 1 + 1 + 1, t, none⟩ = some (.int .u32 (Sha.wk t k)) := by
              rw [hR2.bW.cell, List.getElem?_set, if_pos rfl, if_pos (by rw [Sha.wCells_length]; omega)]
            have c2 : wr.cell? ⟨w.heap.size + 1, 4 * t + k, none⟩ = some (.int .u8 (Sha.bv (4 * t + k))) := by
              rw [hR2.bB.cell, Sha.bCells_get (by omega)]
            have f1 : ∀ j, wr.frozen? ⟨w.heap.size + 1 + 1 + 1, j, none⟩ = false := fun j => hR2.bW.frozen j
            have l1 := hR2.bW.lt
            obtain ⟨x, hx⟩ : ∃ x, x = Sha.wk t k := ⟨_, rfl⟩
            obtain ⟨y, hy⟩ : ∃ y, y = Sha.bv (4 * t + k) := ⟨_, rfl⟩
            obtain ⟨x', hx'⟩ : ∃ x', x' = Sha.wk t (k + 1) := ⟨_, rfl⟩
            have hor : bits BinOp.or IntKind.u32 (IntKind.u32.wrap (x * 256)) (IntKind.u32.wrap y) = x' := by rw [hx, hy, hx']; exact Sha.wk_step' t k hk4
            rw [← hx] at c1
            rw [← hy] at c2
            have HX' := Lib.hid hx'
            have q1 : IntKind.i64.wrap (4 * (t : Int)) = 4 * (t : Int) := IntWalk.i64_in _ (by omega)
            have q2 : IntKind.i64.wrap (4 * (t : Int) + k) = 4 * (t : Int) + k := IntWalk.i64_in _ (by omega)
            have q3 : (0 : Int) ≤ 4 * (t : Int) + k := by omega
            have q4 : 4 * (t : Int) + k < 64 := by omega
            have q5 : (4 * (t : Int) + k).toNat = 4 * t + k := by omega
            clear hR2 hx hy hx'
            go_wp2
            go_still_tail 14, (by kernel_rfl)
            clear q1 q2 q3 q4 q5 hor
            go_wp2
            go_roundw
            case rel =>
              refine ⟨k + 1, by omega, by go_num, ?_⟩
              have := (HR2.out.setW t (.int .u32 x')).drew
              rw [List.set_set] at this
              rw [← HX'.out]
              exact this
            case measure => simp [intOf]; omega
          · have hk4' : k = 4 := by omega
            subst hk4'
            rw [Sha.wk_four h16, Sha.wCells_set] at hR2
            have HR3 := Lib.hid hR2
            clear hR2
            go_wp2
            go_roundw
            case rel => exact ⟨t + 1, by omega, by go_num, HR3.out⟩
            case measure => simp [intOf]; omega
      · have g0 : wa.cell? ⟨w.heap.size + 1 + 1 + 1, t - 16, none⟩ = some (.int .u32 (Sha.wv (t - 16))) := by
          rw [HR.out.bW.cell, Sha.wCells_get (by omega), if_pos (by omega)]
        have g1 : wa.cell? ⟨w.heap.size + 1 + 1 + 1, t - 15, none⟩ = some (.int .u32 (Sha.wv (t - 15))) := by
          rw [HR.out.bW.cell, Sha.wCells_get (by omega), if_pos (by omega)]
        have g2 : wa.cell? ⟨w.heap.size + 1 + 1 + 1, t - 7, none⟩ = some (.int .u32 (Sha.wv (t - 7))) := by
          rw [HR.out.bW.cell, Sha.wCells_get (by omega), if_pos (by omega)]
        have g3 : wa.cell? ⟨w.heap.size + 1 + 1 + 1, t - 2, none⟩ = some (.int .u32 (Sha.wv (t - 2))) := by
          rw [HR.out.bW.cell, Sha.wCells_get (by omega), if_pos (by omega)]
        have gt : wa.cell? ⟨w.heap.size + 1 + 1 + 1, t, none⟩ = some (.int .u32 0) := by
          rw [HR.out.bW.cell, Sha.wCells_get (by omega), if_neg (by omega)]
        have gf : ∀ j, wa.frozen? ⟨w.heap.size + 1 + 1 + 1, j, none⟩ = false := fun j => HR.out.bW.frozen j
        have gl := HR.out.bW.lt
        have HW := Lib.hid (Sha.wv_high (t := t) (by omega))
        obtain ⟨x0, hx0⟩ : ∃ x, x = Sha.wv (t - 16) := ⟨_, rfl⟩
        obtain ⟨x1, hx1⟩ : ∃ x, x = Sha.wv (t - 15) := ⟨_, rfl⟩
        obtain ⟨x2, hx2⟩ : ∃ x, x = Sha.wv (t - 7) := ⟨_, rfl⟩
        obtain ⟨x3, hx3⟩ : ∃ x, x = Sha.wv (t - 2) := ⟨_, rfl⟩
        rw [← hx0] at g0
        rw [← hx1] at g1
        rw [← hx2] at g2
        rw [← hx3] at g3
        have HX := Lib.hid (show Sha.wv t = Sha.wNew x0 x1 x2 x3 from by rw [HW.out, hx0, hx1, hx2, hx3])
        have p1 : IntKind.i64.wrap ((t : Int) - 16) = (t : Int) - 16 := IntWalk.i64_in _ (by omega)
        have p2 : IntKind.i64.wrap ((t : Int) - 15) = (t : Int) - 15 := IntWalk.i64_in _ (by omega)
        have p3 : IntKind.i64.wrap ((t : Int) - 7) = (t : Int) - 7 := IntWalk.i64_in _ (by omega)
        have p4 : IntKind.i64.wrap ((t : Int) - 2) = (t : Int) - 2 := IntWalk.i64_in _ (by omega)
        have a1 : (0 : Int) ≤ (t : Int) - 16 := by omega
        have a2 : (0 : Int) ≤ (t : Int) - 15 := by omega
        have a3 : (0 : Int) ≤ (t : Int) - 7 := by omega
        have a4 : (0 : Int) ≤ (t : Int) - 2 := by omega
        have b1 : (t : Int) - 16 < 64 := by omega
        have b2 : (t : Int) - 15 < 64 := by omega
        have b3 : (t : Int) - 7 < 64 := by omega
        have b4 : (t : Int) - 2 < 64 := by omega
        have d1 : ((t : Int) - 16).toNat = t - 16 := by omega
        have d2 : ((t : Int) - 15).toNat = t - 15 := by omega
        have d3 : ((t : Int) - 7).toNat = t - 7 := by omega
        have d4 : ((t : Int) - 2).toNat = t - 2 := by omega
        clear hx0 hx1 hx2 hx3
        go_wp2
        go_quiet (fail)
        have HR4 := HR.out.drewN nq
        obtain ⟨w3, hw3⟩ : ∃ x, x = wa.drewN nq := ⟨_, rfl⟩
        have k0 : w3.cell? ⟨w.heap.size + 1 + 1 + 1, t - 16, none⟩ = some (.int .u32 x0) := by rw [hw3]; exact g0
        have k2 : w3.cell? ⟨w.heap.size + 1 + 1 + 1, t - 7, none⟩ = some (.int .u32 x2) := by rw [hw3]; exact g2
        have kt : w3.cell? ⟨w.heap.size + 1 + 1 + 1, t, none⟩ = some (.int .u32 0) := by rw [hw3]; exact gt
        have kf : ∀ j, w3.frozen? ⟨w.heap.size + 1 + 1 + 1, j, none⟩ = false := by rw [hw3]; exact gf
        have kl : w.heap.size + 1 + 1 + 1 < w3.heap.size := by rw [hw3]; exact gl
        rw [← hw3] at HR4 ⊢
        clear hw3 g0 g1 g2 g3 gt gf gl
        have e1 : (7 : Int) ≤ (t : Int) := by omega
        have e2 : (16 : Int) ≤ (t : Int) := by omega
        have e3 : (t : Int) < 71 := by omega
        have e4 : (t : Int) < 80 := by omega
        have e5 : (t : Int) < 64 := by omega
        go_wp2
        go_still_tail 11, (by kernel_rfl)
        go_wp2
        have HR5 := (HR4.setW t (.int .u32 ((x0 + x2) % 4294967296))).drew
        obtain ⟨w4, hw4⟩ : ∃ x, x = (w3.setCell ⟨w.heap.size + 1 + 1 + 1, t, none⟩ (.int .u32 ((x0 + x2) % 4294967296))).drew := ⟨_, rfl⟩
        rw [← hw4] at HR5 ⊢
        clear hw4 HR4 k0 k2 kt kf kl
        clear p1 p2 p3 p4 a1 a2 a3 a4 b1 b2 b3 b4 d1 d2 d3 d4 e1 e2 e3 e4
        obtain ⟨y1, hy1⟩ : ∃ y, y = (x0 + x2) % 4294967296 := ⟨_, rfl⟩
        rw [← hy1] at HR5
        have HY1 := Lib.hid hy1
        clear hy1
        have HR5h := Lib.hid HR5
        have c5 : w4.cell? ⟨w.heap.size + 1 + 1 + 1, t, none⟩ = some (.int .u32 y1) := by rw [HR5.bW.cell, Sha.wCells_set_self _ hlt]
        have f5' : ∀ j, w4.frozen? ⟨w.heap.size + 1 + 1 + 1, j, none⟩ = false := fun j => HR5.bW.frozen j
        have l5 := HR5.bW.lt
        clear HR5
        go_cut [6, 9] (fun s6 s9 wx => s6 = .int .i64 t ∧ s9 = .int .u32 x3 ∧ RF w wx [.int .u32 f0, .int .u32 f1, .int .u32 f2, .int .u32 f3, .int .u32 f4, .int .u32 f5, .int .u32 f6, .int .u32 f7] ((Sha.wCells t).set t (.int .u32 ((y1 + Sha.lowS0 x1) % 4294967296))))
        case first =>
          go_region_with (first | (go_at_call 139; refine (sha_turned _ _ (by unfold tnOK; simp) _).mono ?_; rintro e w' ⟨rfl, nq', rfl⟩))
          all_goals
            go_wp2
            go_meet
            refine ⟨rfl, rfl, ?_⟩
            refine RF.setW' (RF.drewN HR5h.out _) t _ ?_
            rw [List.set_set]
            simp only [IntKind.wrap_u32]
            rfl
        case rest =>
          obtain ⟨rfl, rfl, hR6⟩ := hcut
          have HR6 := Lib.hid hR6
          obtain ⟨w5, hw5⟩ : ∃ x, x = wc := ⟨_, rfl⟩
          subst hw5
          obtain ⟨y2, hy2⟩ : ∃ y, y = (y1 + Sha.lowS0 x1) % 4294967296 := ⟨_, rfl⟩
          rw [← hy2] at hR6
          have c6 : w5.cell? ⟨w.heap.size + 1 + 1 + 1, t, none⟩ = some (.int .u32 y2) := by rw [hR6.bW.cell, Sha.wCells_set_self _ hlt]
          have f6' : ∀ j, w5.frozen? ⟨w.heap.size + 1 + 1 + 1, j, none⟩ = false := fun j => hR6.bW.frozen j
          have l6 := hR6.bW.lt
          have HR6' := Lib.hid hR6
          have HY2 := Lib.hid hy2
          clear hR6 hy2
          go_wp2
          go_region_with (first | (go_at_call 139; refine (sha_turned _ _ (by unfold tnOK; simp) _).mono ?_; rintro e w' ⟨rfl, nq', rfl⟩))
          all_goals
            go_wp2
            go_roundw
            case rel =>
              refine ⟨t + 1, by omega, by go_num, ?_⟩
              refine RF.setW' (RF.drewN HR6'.out _) t _ ?_
              rw [List.set_set, ← Sha.wCells_set, HX.out, HY2.out, HY1.out]
              congr 2
              unfold Sha.wNew Sha.lowS1 Sha.xorI
              try simp only [IntKind.wrap_u32]
              omega
            case measure => simp [intOf]; omega
    · have ht64 : t = 64 := by omega
      subst ht64
      have hF := HR.out.bF
      obtain ⟨S, hS⟩ : ∃ S, S = wa.heap.size := ⟨_, rfl⟩
      have q0 : wa.cell? ⟨w.heap.size, 0, none⟩ = some (.int .u32 f0) := hF.cell 0
      have q1 : wa.cell? ⟨w.heap.size, 1, none⟩ = some (.int .u32 f1) := hF.cell 1
      have q2 : wa.cell? ⟨w.heap.size, 2, none⟩ = some (.int .u32 f2) := hF.cell 2
      have q3 : wa.cell? ⟨w.heap.size, 3, none⟩ = some (.int .u32 f3) := hF.cell 3
      have q4 : wa.cell? ⟨w.heap.size, 4, none⟩ = some (.int .u32 f4) := hF.cell 4
      have q5 : wa.cell? ⟨w.heap.size, 5, none⟩ = some (.int .u32 f5) := hF.cell 5
      have q6 : wa.cell? ⟨w.heap.size, 6, none⟩ = some (.int .u32 f6) := hF.cell 6
      have q7 : wa.cell? ⟨w.heap.size, 7, none⟩ = some (.int .u32 f7) := hF.cell 7
      clear hF
      have HB0 := Lib.hid (Blk.new wa (Sha.St.cells ⟨f0, f1, f2, f3, f4, f5, f6, f7⟩) 213)
      go_wp2
      simp only [show ((64 : Nat) : Int) = 64 from rfl]
      clear q0 q1 q2 q3 q4 q5 q6 q7
      rw [← hS] at HB0 ⊢
      have HR0 : Hid (RF w (wa.alloc (.cells #[.int .u32 f0, .int .u32 f1, .int .u32 f2, .int .u32 f3, .int .u32 f4, .int .u32 f5, .int .u32 f6, .int .u32 f7] 213)) [.int .u32 f0, .int .u32 f1, .int .u32 f2, .int .u32 f3, .int .u32 f4, .int .u32 f5, .int .u32 f6, .int .u32 f7] (Sha.wCells 64)) := ⟨HR.out.chg.alloc _, HR.out.bF.alloc _, HR.out.bB.alloc _, HR.out.bR.alloc _, HR.out.bW.alloc _⟩
      have hS4 : w.heap.size + 1 + 1 + 1 < S := by rw [hS]; exact HR.out.bW.lt
      clear hS
      go_loopw [91] (fun i wr => ∃ t : Nat, t ≤ 64 ∧ i = .int .i64 t ∧ RF w wr [.int .u32 f0, .int .u32 f1, .int .u32 f2, .int .u32 f3, .int .u32 f4, .int .u32 f5, .int .u32 f6, .int .u32 f7] (Sha.wCells 64) ∧
          Blk wr S (Sha.stN K ⟨f0, f1, f2, f3, f4, f5, f6, f7⟩ t).cells 213) (fun i _ => 64 - (intOf i).toNat)
      case atStart => exact ⟨0, by omega, rfl, HR0.out, HB0.out⟩
      case round =>
        clear HR0 HB0
        obtain ⟨wb, hwb⟩ : ∃ x, x = wr := ⟨_, rfl⟩
        subst hwb
        obtain ⟨t, ht, rfl, hR, hB⟩ := hrel
        obtain ⟨s, hs⟩ : ∃ s, s = Sha.stN K ⟨f0, f1, f2, f3, f4, f5, f6, f7⟩ t := ⟨_, rfl⟩
        rw [← hs] at hB
        have HS1 := Lib.hid hs
        clear hs
        obtain ⟨a, b, c, d, e, f, g, hh⟩ := s
        have q0 : wb.cell? ⟨S, 0, none⟩ = some (.int .u32 a) := hB.cell 0
        have q1 : wb.cell? ⟨S, 1, none⟩ = some (.int .u32 b) := hB.cell 1
        have q2 : wb.cell? ⟨S, 2, none⟩ = some (.int .u32 c) := hB.cell 2
        have q3 : wb.cell? ⟨S, 3, none⟩ = some (.int .u32 d) := hB.cell 3
        have q4 : wb.cell? ⟨S, 4, none⟩ = some (.int .u32 e) := hB.cell 4
        have q5 : wb.cell? ⟨S, 5, none⟩ = some (.int .u32 f) := hB.cell 5
        have q6 : wb.cell? ⟨S, 6, none⟩ = some (.int .u32 g) := hB.cell 6
        have q7 : wb.cell? ⟨S, 7, none⟩ = some (.int .u32 hh) := hB.cell 7
        have qf : ∀ j, wb.frozen? ⟨S, j, none⟩ = false := fun j => hB.frozen j
        have ql := hB.lt
        have HB := Lib.hid hB
        have HRb := Lib.hid hR
        clear hB hR
        by_cases hlt : t < 64
        · have qk : wb.cell? ⟨2, t, none⟩ = some (.int .u32 (K t)) := HRb.out.chg.keeps (HK.out t hlt)
          have qw : wb.cell? ⟨w.heap.size + 1 + 1 + 1, t, none⟩ = some (.int .u32 (Sha.wv t)) := by
            rw [HRb.out.bW.cell, Sha.wCells_get hlt, if_pos hlt]
          obtain ⟨kt, hkt⟩ : ∃ x, x = K t := ⟨_, rfl⟩
          obtain ⟨wt, hwt⟩ : ∃ x, x = Sha.wv t := ⟨_, rfl⟩
          rw [← hkt] at qk
          rw [← hwt] at qw
          have HKT := Lib.hid hkt
          have HWT := Lib.hid hwt
          clear hkt hwt
          go_wp2
          go_quiet (fail)
          obtain ⟨m1, hm1⟩ : ∃ m, m = nq := ⟨_, rfl⟩
          subst hm1
          go_wp2
          go_quiet (fail)
          obtain ⟨m2, hm2⟩ : ∃ m, m = nq := ⟨_, rfl⟩
          subst hm2
          go_wp2_with fail
          refine (sha_turned 6 e (by unfold tnOK; simp) _).mono ?_; rintro e' w' ⟨rfl, n1, rfl⟩
          obtain ⟨z6, h6⟩ : ∃ z, z = Sha.tnI 6 e := ⟨_, rfl⟩
          rw [← h6]; have H6 := Lib.hid h6; clear h6
          go_wp2_with fail
          refine (sha_turned 11 e (by unfold tnOK; simp) _).mono ?_; rintro e' w' ⟨rfl, n2, rfl⟩
          obtain ⟨z11, h11⟩ : ∃ z, z = Sha.tnI 11 e := ⟨_, rfl⟩
          rw [← h11]; have H11 := Lib.hid h11; clear h11
          go_wp2_with fail
          refine (sha_turned 25 e (by unfold tnOK; simp) _).mono ?_; rintro e' w' ⟨rfl, n3, rfl⟩
          obtain ⟨z25, h25⟩ : ∃ z, z = Sha.tnI 25 e := ⟨_, rfl⟩
          rw [← h25]; have H25 := Lib.hid h25; clear h25
          go_upto_region 23 with fail
          generalize ho1 : ((hh + kt + wt) % 4294967296 + bits BinOp.xor IntKind.u32 (bits BinOp.xor IntKind.u32 z6 z11) z25) % 4294967296 = o1
          have HO1 := Lib.hid ho1
          clear ho1
          go_upto_region 24 with fail
          generalize ho2 : (o1 + bits BinOp.xor IntKind.u32 (bits BinOp.and IntKind.u32 e f) (bits BinOp.and IntKind.u32 (bits BinOp.xor IntKind.u32 (if IntKind.u32.signed = true then -1 else IntKind.u32.max) e) g)) % 4294967296 = o2
          have HO2 := Lib.hid ho2
          clear ho2
          go_wp2_with fail
          refine (sha_turned 2 a (by unfold tnOK; simp) _).mono ?_; rintro e' w' ⟨rfl, n4, rfl⟩
          obtain ⟨z2, h2⟩ : ∃ z, z = Sha.tnI 2 a := ⟨_, rfl⟩
          rw [← h2]; have H2 := Lib.hid h2; clear h2
          go_wp2_with fail
          refine (sha_turned 13 a (by unfold tnOK; simp) _).mono ?_; rintro e' w' ⟨rfl, n5, rfl⟩
          obtain ⟨z13, h13⟩ : ∃ z, z = Sha.tnI 13 a := ⟨_, rfl⟩
          rw [← h13]; have H13 := Lib.hid h13; clear h13
          go_wp2_with fail
          refine (sha_turned 22 a (by unfold tnOK; simp) _).mono ?_; rintro e' w' ⟨rfl, n6, rfl⟩
          obtain ⟨z22, h22⟩ : ∃ z, z = Sha.tnI 22 a := ⟨_, rfl⟩
          rw [← h22]; have H22 := Lib.hid h22; clear h22
          go_upto_region 26 with fail
          generalize ho3 : (bits BinOp.xor IntKind.u32 (bits BinOp.xor IntKind.u32 z2 z13) z22 + bits BinOp.xor IntKind.u32 (bits BinOp.xor IntKind.u32 (bits BinOp.and IntKind.u32 a b) (bits BinOp.and IntKind.u32 a c)) (bits BinOp.and IntKind.u32 b c)) % 4294967296 = o3
          have HO3 := Lib.hid ho3
          clear ho3
          have hst : (⟨(o2 + o3) % 4294967296, a, b, c, (d + o2) % 4294967296, e, f, g⟩ : Sha.St) = Sha.stN K ⟨f0, f1, f2, f3, f4, f5, f6, f7⟩ (t + 1) := by
            rw [Sha.stN, ← HS1.out, ← HKT.out, ← HWT.out]
            have e1 : o2 = (hh + kt + wt + Sha.bigS1 e + Sha.chI e f g) % 4294967296 := by
              rw [← HO2.out, ← HO1.out, H6.out, H11.out, H25.out]
              exact Sha.one_eq (hh + kt + wt) (Sha.bigS1 e) (Sha.chI e f g)
            have e2 : o3 = (Sha.bigS0 a + Sha.maj a b c) % 4294967296 := by
              rw [← HO3.out, H2.out, H13.out, H22.out]
              rfl
            unfold Sha.stp
            rw [← e1, ← e2]
          have HST := Lib.hid hst
          clear hst
          obtain ⟨w5, hw5⟩ : ∃ x, x = wb.drewN (m1 + m2 + n1 + n2 + n3 + n4 + n5 + n6) := ⟨_, rfl⟩
          have HB5 : Hid (Blk w5 S [.int .u32 a, .int .u32 b, .int .u32 c, .int .u32 d, .int .u32 e, .int .u32 f, .int .u32 g, .int .u32 hh] 213) := by rw [hw5]; exact HB.out
          have HR5 := Lib.hid (hw5 ▸ HRb.out.drewN (m1 + m2 + n1 + n2 + n3 + n4 + n5 + n6))
          have r3 : w5.cell? ⟨S, 3, none⟩ = some (.int .u32 d) := HB5.out.cell 3
          have rf : ∀ j, w5.frozen? ⟨S, j, none⟩ = false := fun j => HB5.out.frozen j
          have rl := HB5.out.lt
          have s0 := HB5.out.cell 0
          have s1 := HB5.out.cell 1
          have s2 := HB5.out.cell 2
          have s4 := HB5.out.cell 4
          have s5 := HB5.out.cell 5
          have s6 := HB5.out.cell 6
          have s7 := HB5.out.cell 7
          simp only [List.getElem?_cons_zero, List.getElem?_cons_succ] at s0 s1 s2 s4 s5 s6 s7
          rw [← hw5]
          clear hw5 q0 q1 q2 q3 q4 q5 q6 q7 qf ql qk qw
          go_wp2
          go_roundw
          case rel =>
            refine ⟨t + 1, by omega, by go_num, ?_, ?_⟩
            · exact (((((((HR5.out.setS hS4 0 _).setS hS4 1 _).setS hS4 2 _).setS hS4 3 _).setS hS4 4 _).setS hS4 5 _).setS hS4 6 _).setS hS4 7 _
            · rw [← HST.out]
              exact ((((((((HB5.out.set 0 _).set 1 _).set 2 _).set 3 _).set 4 _).set 5 _).set 6 _).set 7 _)
          case measure => simp [intOf]; omega
        · have ht64 : t = 64 := by omega
          subst ht64
          clear q0 q1 q2 q3 q4 q5 q6 q7 qf ql
          simp only [show ((64 : Nat) : Int) = 64 from rfl]
          obtain ⟨st, hst⟩ : ∃ st : Sha.St, st = ⟨a, b, c, d, e, f, g, hh⟩ := ⟨_, rfl⟩
          obtain ⟨fs, hfs⟩ : ∃ fs : Sha.St, fs = ⟨f0, f1, f2, f3, f4, f5, f6, f7⟩ := ⟨_, rfl⟩
          rw [← hst] at HB HS1
          rw [← hfs] at HS1
          have HFS := Lib.hid hfs
          clear hst hfs
          go_wp2
          go_loopw [172] (fun i wr => ∃ k : Nat, k ≤ 8 ∧ i = .int .i64 k ∧ RF w wr [.int .u32 f0, .int .u32 f1, .int .u32 f2, .int .u32 f3, .int .u32 f4, .int .u32 f5, .int .u32 f6, .int .u32 f7] (Sha.wCells 64) ∧
              Blk wr S (Sha.cellsF 8 (Sha.sumF st fs k)) 213) (fun i _ => 8 - (intOf i).toNat)
          case atStart => exact ⟨0, by omega, rfl, HRb.out, by rw [Sha.sumF_zero]; exact HB.out⟩
          case round =>
            clear HRb HB
            obtain ⟨k, hk, rfl, hR, hB⟩ := hrel
            by_cases hlt : k < 8
            · have u0 : wr.cell? ⟨S, k, none⟩ = some (.int .u32 (st.fn k)) := by
                rw [hB.cell, Sha.cellsF_get hlt]; unfold Sha.sumF; rw [if_neg (by omega)]
              have u1 : wr.cell? ⟨w.heap.size, k, none⟩ = some (.int .u32 (fs.fn k)) := by
                rw [hR.bF.cell, ← Sha.cellsF_get (f := fs.fn) hlt, ← Sha.St.cells_fn, HFS.out]; rfl
              have uf : ∀ j, wr.frozen? ⟨S, j, none⟩ = false := fun j => hB.frozen j
              have ul := hB.lt
              have HR2 := Lib.hid hR
              have HB2 := Lib.hid hB
              clear hR hB
              have i8 : (k : Int) < 8 := by omega
              go_wp2
              go_still_tail 8, (by kernel_rfl)
              go_wp2
              go_roundw
              case rel =>
                refine ⟨k + 1, by omega, by go_num, ?_, ?_⟩
                · exact (HR2.out.setS hS4 k _).drew
                · rw [← Sha.sumF_set]
                  exact (HB2.out.set k _).drew
              case measure => simp [intOf]; omega
            · have hk8 : k = 8 := by omega
              subst hk8
              rw [Sha.sumF_eight] at hB
              have hres : Sha.sumS st fs = Sha.round K ⟨f0, f1, f2, f3, f4, f5, f6, f7⟩ := by
                unfold Sha.round; rw [HS1.out, HFS.out]
              obtain ⟨r, hr⟩ : ∃ r, r = Sha.sumS st fs := ⟨_, rfl⟩
              rw [← hr] at hB hres
              have HRES := Lib.hid hres
              clear hr hres
              obtain ⟨r0, r1, r2, r3, r4, r5, r6, r7⟩ := r
              have v0 : wr.cell? ⟨S, 0, none⟩ = some (.int .u32 r0) := hB.cell 0
              have v1 : wr.cell? ⟨S, 1, none⟩ = some (.int .u32 r1) := hB.cell 1
              have v2 : wr.cell? ⟨S, 2, none⟩ = some (.int .u32 r2) := hB.cell 2
              have v3 : wr.cell? ⟨S, 3, none⟩ = some (.int .u32 r3) := hB.cell 3
              have v4 : wr.cell? ⟨S, 4, none⟩ = some (.int .u32 r4) := hB.cell 4
              have v5 : wr.cell? ⟨S, 5, none⟩ = some (.int .u32 r5) := hB.cell 5
              have v6 : wr.cell? ⟨S, 6, none⟩ = some (.int .u32 r6) := hB.cell 6
              have v7 : wr.cell? ⟨S, 7, none⟩ = some (.int .u32 r7) := hB.cell 7
              have x0 : wr.cell? ⟨w.heap.size + 1 + 1, 0, none⟩ = some (.int .u32 0) := hR.bR.cell 0
              have x1 : wr.cell? ⟨w.heap.size + 1 + 1, 1, none⟩ = some (.int .u32 0) := hR.bR.cell 1
              have x2 : wr.cell? ⟨w.heap.size + 1 + 1, 2, none⟩ = some (.int .u32 0) := hR.bR.cell 2
              have x3 : wr.cell? ⟨w.heap.size + 1 + 1, 3, none⟩ = some (.int .u32 0) := hR.bR.cell 3
              have x4 : wr.cell? ⟨w.heap.size + 1 + 1, 4, none⟩ = some (.int .u32 0) := hR.bR.cell 4
              have x5 : wr.cell? ⟨w.heap.size + 1 + 1, 5, none⟩ = some (.int .u32 0) := hR.bR.cell 5
              have x6 : wr.cell? ⟨w.heap.size + 1 + 1, 6, none⟩ = some (.int .u32 0) := hR.bR.cell 6
              have x7 : wr.cell? ⟨w.heap.size + 1 + 1, 7, none⟩ = some (.int .u32 0) := hR.bR.cell 7
              have xf : ∀ j, wr.frozen? ⟨w.heap.size + 1 + 1, j, none⟩ = false := fun j => hR.bR.frozen j
              have xl := hR.bR.lt
              have HC := Lib.hid hR.chg
              have HBR := Lib.hid hR.bR
              clear hR hB
              go_wp2
              refine bodyPost_ret (results_cell8 rfl _ _ (w.heap.size + 1 + 1) r0 r1 r2 r3 r4 r5 r6 r7 rfl ((((((((HBR.out.set 0 _).set 1 _).set 2 _).set 3 _).set 4 _).set 5 _).set 6 _).set 7 _)) rfl ⟨congrArg (fun s => Ending.returned (.agg (Sha.St.cells s).toArray)) HRES.out, ((((((((HC.out.setCell _ _ (by simp; omega)).setCell _ _ (by simp; omega)).setCell _ _ (by simp; omega)).setCell _ _ (by simp; omega)).setCell _ _ (by simp; omega)).setCell _ _ (by simp; omega)).setCell _ _ (by simp; omega)).setCell _ _ (by simp; omega))⟩
end Go.Proofs.YtfdhgakalojahaaGreatDoor

namespace Go.Proofs.YtfdhgakalojahaaGreatDoor
open Go Go.RowKit

/-- a hash's cells: the state, the blocks, the rest -/
def HC (s : Sha.St) (blocks : Int) (rest : Value) : List Value := s.cells ++ [.int .u64 blocks, rest]

theorem HC.eq (a b c d e f g h : Int) (n : Int) (v : Value) : HC ⟨a, b, c, d, e, f, g, h⟩ n v = [.int .u32 a, .int .u32 b, .int .u32 c, .int .u32 d, .int .u32 e, .int .u32 f, .int .u32 g, .int .u32 h, .int .u64 n, v] := rfl

theorem clone_byte_nil (w : World) : Calls Tryz.prog 122 #[.slice none 0 0] w fun e w' => e = .returned (.slice none 0 0) ∧ w = w' := by
  have hq := fun (wx : World) (a : Option Addr) (n c : Nat) => Lib.run_eql_slice_nil (P := Tryz.prog) wx 90 5 a n c 0 0 Tryz.underlying90
  go_enter Tryz.func122, Tryz.ntmps122
  go_wp2
  go_ret
  exact ⟨rfl, rfl⟩

set_option maxRecDepth 100000 in
theorem sha_Len (b : Nat) (s : Sha.St) (w : World) (hB : Blk w b (HC s 0 (.slice none 0 0)) 221) :
    Calls Tryz.prog 125 #[.pointer (some ⟨b, 0, none⟩)] w fun e w' => e = .returned (.int .u64 0) ∧ Chg w w' [] := by
  obtain ⟨a0, a1, a2, a3, a4, a5, a6, a7⟩ := s
  have c8 : w.cell? ⟨b, 8, none⟩ = some (.int .u64 0) := hB.cell 8
  have c9 : w.cell? ⟨b, 9, none⟩ = some (.slice none 0 0) := hB.cell 9
  clear hB
  go_enter Tryz.func125, Tryz.ntmps125
  go_wp2
  go_quiet (fail)
  go_wp2
  go_ret
  exact ⟨rfl, by (repeat (first | exact Chg.refl _ _ | with_reducible refine Chg.drewN ?_ _ | with_reducible refine Chg.drew ?_ | with_reducible refine Chg.alloc ?_ _ | with_reducible refine Chg.setCell ?_ _ _ (by simp) | with_reducible refine Chg.setCell ?_ _ _ (by simp; omega)))⟩

set_option maxRecDepth 100000 in
set_option maxHeartbeats 4000000 in
theorem sha_Copy (b : Nat) (s : Sha.St) (w : World) (hB : Blk w b (HC s 0 (.slice none 0 0)) 221) :
    Calls Tryz.prog 123 #[.pointer (some ⟨b, 0, none⟩)] w fun e w' => e = .returned (.pointer (some ⟨w.heap.size, 0, none⟩)) ∧ Chg w w' [] ∧ Blk w' w.heap.size (HC s 0 (.slice none 0 0)) 221 := by
  obtain ⟨a0, a1, a2, a3, a4, a5, a6, a7⟩ := s
  have hB' := hB
  rw [HC.eq] at hB'
  have q0 := hB'.cell 0
  have q1 := hB'.cell 1
  have q2 := hB'.cell 2
  have q3 := hB'.cell 3
  have q4 := hB'.cell 4
  have q5 := hB'.cell 5
  have q6 := hB'.cell 6
  have q7 := hB'.cell 7
  have q8 := hB'.cell 8
  have q9 := hB'.cell 9
  simp only [List.getElem?_cons_zero, List.getElem?_cons_succ] at q0 q1 q2 q3 q4 q5 q6 q7 q8 q9
  clear hB hB'
  go_enter Tryz.func123, Tryz.ntmps123
  go_wp2
  go_region_with (first | (go_at_call 122; refine (clone_byte_nil _).mono ?_; rintro e w' ⟨rfl, rfl⟩))
  all_goals go_wp2
  all_goals go_ret
  all_goals exact ⟨rfl, by (repeat (first | exact Chg.refl _ _ | with_reducible refine Chg.drewN ?_ _ | with_reducible refine Chg.drew ?_ | with_reducible refine Chg.alloc ?_ _ | with_reducible refine Chg.setCell ?_ _ _ (by simp) | with_reducible refine Chg.setCell ?_ _ _ (by simp; omega))), Blk.new _ (HC ⟨a0, a1, a2, a3, a4, a5, a6, a7⟩ 0 (.slice none 0 0)) _⟩
end Go.Proofs.YtfdhgakalojahaaGreatDoor

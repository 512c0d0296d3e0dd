/- WALKS: the reference's layer 2: the first primes. WALKS: the reference's layer 2: the constants. -/
import Derived.Deep.LoopGhost
import Derived.Test.YtfdhgakalojahaaGreatDoorM15
import Derived.Test.YtfdhgakalojahaaGreatDoorM03
import Derived.Test.YtfdhgakalojahaaGreatDoorM06
import Derived.Test.YtfdhgakalojahaaGreatDoorM02
set_option linter.unusedSimpArgs false
set_option linter.unusedVariables false
set_option linter.unnecessarySimpa false
set_option linter.unusedSectionVars false
namespace Go.Proofs.YtfdhgakalojahaaGreatDoor
open Go Go.RowKit

def u64s (l : List Nat) : List Value := l.map fun (n : Nat) => Value.int .u64 n

/-- the array of primes, as far as it is filled -/
def pCells (l : List Nat) : List Value := u64s l ++ List.replicate (64 - l.length) (.int .u64 0)

theorem pCells_length {l : List Nat} (h : l.length ≤ 64) : (pCells l).length = 64 := by unfold pCells u64s; simp; omega

theorem pCells_set {l : List Nat} (h : l.length < 64) (p : Nat) : (pCells l).set l.length (.int .u64 p) = pCells (l ++ [p]) := by
  unfold pCells u64s
  rw [List.set_append_right _ _ (by simp)]
  simp only [List.length_map, Nat.sub_self, List.map_append, List.map_cons, List.map_nil, List.length_append, List.length_cons, List.length_nil, List.append_assoc]
  congr 1
  rw [show 64 - l.length = (64 - (l.length + (0 + 1))) + 1 from by omega, List.replicate_succ]
  rfl

theorem info_253 : (Tryz.prog.info? 253).map (·.size) = some 64 := by kernel_rfl

theorem u64s_one (l : List Nat) : ∀ v ∈ u64s l, v.oneCell' = true := by
  intro v hv
  obtain ⟨n, _, rfl⟩ := List.mem_map.1 hv
  rfl

set_option maxRecDepth 10000 in
set_option maxHeartbeats 4000000 in
theorem r2_primes (w : World) :
    Calls Tryz.prog 154 #[] w fun e w' => e = .returned (.agg (u64s PL).toArray) ∧ Chg w w' [] := by
  have HB1 : Hid (Blk ((w.alloc (.cells (List.replicate 64 (.int .u64 0)).toArray 253)).alloc (.cells (List.replicate 64 (.int .u64 0)).toArray 253)) (w.heap.size + 1) (pCells (lp 2)) 253) := by
    rw [lp_first]
    have := Blk.new (w.alloc (.cells (List.replicate 64 (.int .u64 0)).toArray 253)) (List.replicate 64 (.int .u64 0)) 253
    rw [World.size_alloc] at this
    exact this
  have HB0 := Lib.hid ((Blk.new w (List.replicate 64 (.int .u64 0)) 253).alloc (.cells (List.replicate 64 (.int .u64 0)).toArray 253))
  go_enter Tryz.func154, Tryz.ntmps154
  go_wp2
  go_loopw [2, 3] (fun v2 v3 wr => ∃ p : Nat, 2 ≤ p ∧ p ≤ 312 ∧ v3 = .int .u64 p ∧ v2 = .int .i64 (lp p).length ∧ Blk wr (w.heap.size + 1) (pCells (lp p)) 253 ∧ Blk wr w.heap.size (List.replicate 64 (.int .u64 0)) 253 ∧ Chg w wr [])
    (fun _ v3 _ => 312 - (intOf v3).toNat)
  case atStart =>
    refine ⟨2, by omega, by omega, rfl, by rw [lp_first]; rfl, HB1.out, HB0.out, by (repeat (first | exact Chg.refl _ _ | with_reducible refine Chg.drewN ?_ _ | with_reducible refine Chg.drew ?_ | with_reducible refine Chg.alloc ?_ _ | with_reducible refine Chg.setCell ?_ _ _ (by simp) | with_reducible refine Chg.setCell ?_ _ _ (by simp; omega)))⟩
  case round =>
    obtain ⟨wa, hwa⟩ : ∃ x, x = wr := ⟨_, rfl⟩
    subst hwa
    obtain ⟨p, hp2, hp, rfl, rfl, hB1, hB0, hg⟩ := hrel
    have HBa := Lib.hid hB1
    have HBb := Lib.hid hB0
    have HG := Lib.hid hg
    by_cases hlt : p < 312
    · have hn := lp_lt hlt
      have hpr := prB_eq hlt
      have hsu := lp_succ hlt
      obtain ⟨l, hl⟩ : ∃ l, l = lp p := ⟨_, rfl⟩
      rw [← hl] at hn hsu HBa hB1 ⊢
      have HPR := Lib.hid hpr
      have HSU := Lib.hid hsu
      have hBf : ∀ j, wa.frozen? ⟨w.heap.size + 1, j, none⟩ = false := fun j => hB1.frozen j
      have hBl := hB1.lt
      have hcl : ∃ v, wa.cell? ⟨w.heap.size + 1, l.length, none⟩ = some v := by
        rw [hB1.cell]
        exact ⟨_, List.getElem?_eq_getElem (by rw [pCells_length (by omega)]; exact hn)⟩
      obtain ⟨vc, hcl⟩ := hcl
      clear hB1 hB0 hg hpr hsu hl
      have e1 : decide ((l.length : Int) < 64) = true := by simp; omega
      go_wp2
      clear e1
      go_loop [4, 5] (fun v4 v5 => ∃ (d f : Nat) (is : Bool), 2 ≤ d ∧ d ≤ 20 ∧ f + d = 514 ∧ v5 = .int .u64 d ∧ v4 = .bool is ∧ loopP p f d is = prB p) (fun _ v5 => 600 - (intOf v5).toNat)
      case atStart => exact ⟨2, 512, true, by omega, by omega, rfl, rfl, rfl, rfl⟩
      case round =>
        obtain ⟨d, f, is, hd2, hd20, hfd, rfl, rfl, hlo⟩ := hrel
        obtain ⟨f', rfl⟩ : ∃ f', f = f' + 1 := ⟨f - 1, by omega⟩
        obtain ⟨dd, hdd⟩ : ∃ dd, dd = d * d := ⟨_, rfl⟩
        have hmul : (d : Int) * (d : Int) = (dd : Int) := by rw [hdd]; exact (Int.natCast_mul d d).symm
        have hd17 : dd ≤ p → d ≤ 17 := by
          intro h
          rw [hdd] at h
          by_cases h17 : d ≤ 17
          · exact h17
          · have : 18 * 18 ≤ d * d := Nat.mul_le_mul (by omega) (by omega)
            omega
        have hdd400 : dd ≤ 400 := by rw [hdd]; exact Nat.mul_le_mul hd20 hd20
        have hloop : loopP p (f' + 1) d is = if decide (dd ≤ p) && is then loopP p f' (d + 1) (decide (p % d ≠ 0)) else is := by rw [hdd]; rfl
        rw [hlo] at hloop
        have HLO := Lib.hid hloop
        clear hloop hlo hdd
        by_cases hle : dd ≤ p
        · have h17 := hd17 hle
          have e1 : decide ((dd : Int) ≤ (p : Int)) = true := decide_eq_true (by omega)
          clear hd17
          cases is with
          | true =>
            have HLE := Lib.hid hle
            clear hle
            go_wp2_with fail
            go_round
            case rel =>
              refine ⟨d + 1, f', decide (p % d ≠ 0), by omega, by omega, by omega, by go_num, ?_, ?_⟩
              · refine congrArg Value.bool ?_
                rw [show (p : Int) % (d : Int) = ((p % d : Nat) : Int) from (Int.natCast_emod p d).symm]
                generalize p % d = r
                by_cases h : r = 0
                · subst h; rfl
                · have h1 : ((r : Int) != 0) = true := by simp [h]
                  rw [h1]; simp [h]
              · have := HLO.out
                simp [HLE.out] at this
                simp [this]
            case measure => simp [intOf]; omega
          | false =>
            have HLE := Lib.hid hle
            clear hle
            go_wp2
            go_roundw
            case rel =>
              have hpr : prB p = false := by have := HLO.out; simpa [HLE.out] using this
              have hc : PL.contains p = false := by rw [HPR.out] at hpr; exact (Bool.or_eq_false_iff.1 hpr).2
              have hs : lp (p + 1) = l := by rw [HSU.out, hc]; rfl
              exact ⟨p + 1, by omega, by omega, by go_num, by rw [hs], by rw [hs]; exact HBa.out, HBb.out, HG.out⟩
            case measure => simp [intOf]; omega
        · have e1 : decide ((dd : Int) ≤ (p : Int)) = false := decide_eq_false (by omega)
          clear hd17
          have HLE := Lib.hid hle
          clear hle
          cases is with
          | true =>
            go_wp2
            go_roundw
            case rel =>
              have hpr : prB p = true := by have := HLO.out; simpa [HLE.out] using this
              have hc : PL.contains p = true := by
                rw [HPR.out] at hpr
                rcases Bool.or_eq_true_iff.1 hpr with h | h
                · have := of_decide_eq_true h; omega
                · exact h
              have hs : lp (p + 1) = l ++ [p] := by rw [HSU.out, if_pos hc]
              refine ⟨p + 1, by omega, by omega, by go_num, by rw [hs]; simp, ?_, HBb.out.set_other _ _ (by simp), HG.out.setCell _ _ (by simp)⟩
              rw [hs, ← pCells_set hn]
              exact HBa.out.set _ _
            case measure => simp [intOf]; omega
          | false =>
            go_wp2
            go_roundw
            case rel =>
              have hpr : prB p = false := by have := HLO.out; simpa [HLE.out] using this
              have hc : PL.contains p = false := by rw [HPR.out] at hpr; exact (Bool.or_eq_false_iff.1 hpr).2
              have hs : lp (p + 1) = l := by rw [HSU.out, hc]; rfl
              exact ⟨p + 1, by omega, by omega, by go_num, by rw [hs], by rw [hs]; exact HBa.out, HBb.out, HG.out⟩
            case measure => simp [intOf]; omega
    · obtain rfl : p = 312 := by omega
      rw [lp_last] at HBa
      have hlen : (lp 312).length = 64 := by rw [lp_last]; exact PL_length
      have hpc : pCells PL = u64s PL := by unfold pCells; rw [PL_length]; simp
      rw [hpc] at HBa
      rw [hlen]
      clear hB1 hB0 hg hlen hpc
      go_wp2_with (first
        | (refine wpList_load_blk rfl _ _ rfl (w.heap.size + 1) rfl 253 (u64s PL) HBa.out _ Tryz.underlying253 rfl info_253 ?_)
        | (refine wpList_store_blk rfl _ _ _ rfl w.heap.size (u64s PL) rfl rfl 253 _ HBb.out info_253 rfl (u64s_one PL) ?_; intro w2 hz2 hB2 hg2))
      exact bodyPost_ret (results_blk rfl _ _ w.heap.size 253 (u64s PL) _ rfl hB2 Tryz.underlying253 rfl info_253) rfl ⟨rfl, HG.out.fresh hg2 (by simp)⟩
end Go.Proofs.YtfdhgakalojahaaGreatDoor

namespace Go.Proofs.YtfdhgakalojahaaGreatDoor
open Go Go.RowKit

def rootV (three : Bool) (j : Nat) : Int := ((rootN three (PL.getD j 0) 40 % 4294967296 : Nat) : Int)

def rootC (n : Nat) (three : Bool) (t : Nat) : List Value := Sha.cellsF n fun j => if j < t then rootV three j else 0

theorem rootC_zero (n : Nat) (three : Bool) : rootC n three 0 = List.replicate n (.int .u32 0) := by
  unfold rootC
  apply List.ext_getElem?
  intro i
  by_cases hi : i < n
  · rw [Sha.cellsF_get hi, List.getElem?_replicate, if_pos hi]; simp
  · rw [List.getElem?_eq_none (by rw [Sha.cellsF_length]; omega), List.getElem?_eq_none (by simp; omega)]

theorem rootC_set (n : Nat) (three : Bool) (t : Nat) : (rootC n three t).set t (.int .u32 (rootV three t)) = rootC n three (t + 1) := by
  unfold rootC
  rw [Sha.cellsF_set]
  congr 1
  funext j
  by_cases h : j = t
  · subst h; rw [if_pos rfl, if_pos (by omega)]
  · rw [if_neg h]
    by_cases h2 : j < t
    · rw [if_pos h2, if_pos (by omega)]
    · rw [if_neg h2, if_neg (by omega)]

theorem PL_get {j : Nat} (h : j < 64) : (u64s PL)[j]? = some (.int .u64 (PL.getD j 0)) := by
  unfold u64s
  rw [List.getElem?_map, List.getElem?_eq_getElem (by rw [PL_length]; exact h), List.getD_eq_getElem?_getD, List.getElem?_eq_getElem (by rw [PL_length]; exact h)]
  rfl

def chkS : Bool := PL.all fun p => decide (p < 512)
theorem eval_S : chkS = true := by kernel_rfl
theorem PL_small {j : Nat} (h : j < 64) : PL.getD j 0 < 512 := by
  have := List.all_eq_true.1 (show PL.all (fun p => decide (p < 512)) = true from eval_S) (PL.getD j 0) (by
    rw [List.getD_eq_getElem?_getD, List.getElem?_eq_getElem (by rw [PL_length]; exact h)]
    exact List.getElem_mem _)
  simpa using this

theorem cellsF_one (n : Nat) (f : Nat → Int) : ∀ v ∈ Sha.cellsF n f, v.oneCell' = true := by
  intro v hv
  obtain ⟨j, _, rfl⟩ := List.mem_map.1 hv
  rfl

theorem info_Constants : (Tryz.prog.info? 238).map (·.size) = some 64 := by kernel_rfl

set_option maxRecDepth 10000 in
set_option maxHeartbeats 4000000 in
theorem r2_Constants (w : World) :
    Calls Tryz.prog 156 #[] w fun e w' => e = .returned (.agg (rootC 64 true 64).toArray) ∧ Chg w w' [] := by
  have HB1 : Hid (Blk ((w.alloc (.cells (List.replicate 64 (.int .u32 0)).toArray 238)).alloc (.cells (List.replicate 64 (.int .u32 0)).toArray 238)) (w.heap.size + 1) (rootC 64 true 0) 238) := by
    rw [rootC_zero]
    have := Blk.new (w.alloc (.cells (List.replicate 64 (.int .u32 0)).toArray 238)) (List.replicate 64 (.int .u32 0)) 238
    rw [World.size_alloc] at this
    exact this
  have HB0 := Lib.hid ((Blk.new w (List.replicate 64 (.int .u32 0)) 238).alloc (.cells (List.replicate 64 (.int .u32 0)).toArray 238))
  go_enter Tryz.func156, Tryz.ntmps156
  go_wp2_with (first
    | (go_at_call 154; ((with_reducible refine (r2_primes _).mono ?_); rintro e w1 ⟨rfl, hg1⟩; have HC1 := Lib.hid (HB1.out.kept hg1 (by simp)); have HC0 := Lib.hid (HB0.out.kept hg1 (by simp)); have HG1 := Lib.hid ((((Chg.refl w []).alloc _).alloc _).trans hg1); clear hg1))
    | (refine wpList_store_blk rfl _ _ _ rfl w1.heap.size (u64s PL) rfl rfl 253 (List.replicate 64 (.int .u64 0)) (Blk.new w1 _ _) info_253 rfl (u64s_one PL) ?_; intro w2 hz2 hB2 hg2; have HB2 := Lib.hid hB2; have HG2 := Lib.hid hg2; clear hB2 hg2))
  have hz1 := HG1.out.size
  have HCa := Lib.hid ((HC1.out.alloc _).kept HG2.out (by have := HC1.out.lt; simp; omega))
  have HCb := Lib.hid ((HC0.out.alloc _).kept HG2.out (by have := HC0.out.lt; simp; omega))
  have HGa := Lib.hid ((HG1.out.alloc _).fresh HG2.out (by simp; omega))
  have hl1 := HC1.out.lt
  clear HB1 HB0 HC1 HC0 HG1 HG2
  obtain ⟨B, hB⟩ : ∃ B, B = w1.heap.size := ⟨_, rfl⟩
  rw [← hB] at HB2 hl1 ⊢
  clear hB hz1 hz2
  go_loopw [3] (fun v3 wr => ∃ i : Nat, i ≤ 64 ∧ v3 = .int .i64 i ∧ Blk wr (w.heap.size + 1) (rootC 64 true i) 238 ∧ Blk wr w.heap.size (List.replicate 64 (.int .u32 0)) 238 ∧ Blk wr B (u64s PL) 253 ∧ Chg w wr [])
    (fun v3 _ => 64 - (intOf v3).toNat)
  case atStart => exact ⟨0, by omega, rfl, HCa.out, HCb.out, HB2.out, HGa.out⟩
  case round =>
    clear HCa HCb HB2 HGa
    obtain ⟨i, hi, rfl, hB1, hB0, hBP, hg⟩ := hrel
    have HB1 := Lib.hid hB1
    have HB0 := Lib.hid hB0
    have HBP := Lib.hid hBP
    have HG := Lib.hid hg
    by_cases hlt : i < 64
    · have hcp : wr.cell? ⟨B, i, none⟩ = some (.int .u64 (PL.getD i 0)) := by rw [hBP.cell, PL_get (by omega)]
      have hsm := PL_small (j := i) (by omega)
      have hcl : wr.cell? ⟨w.heap.size + 1, i, none⟩ = some (.int .u32 0) := by
        rw [hB1.cell]; unfold rootC; rw [Sha.cellsF_get hlt, if_neg (by omega)]
      have hf : ∀ j, wr.frozen? ⟨w.heap.size + 1, j, none⟩ = false := fun j => hB1.frozen j
      have hl := hB1.lt
      obtain ⟨p, hp⟩ : ∃ p, p = PL.getD i 0 := ⟨_, rfl⟩
      have HR : Hid (rootV true i = ((rootN true p 40 % 4294967296 : Nat) : Int)) := by unfold Hid rootV; rw [hp]
      rw [← hp] at hcp hsm
      clear hp hB1 hB0 hBP hg
      obtain ⟨rv, hrv⟩ : ∃ rv, rv = ((rootN true p 40 % 4294967296 : Nat) : Int) := ⟨_, rfl⟩
      have HRT : Hid (∀ w, Calls Tryz.prog 155 #[.int .u64 p, .bool true] w fun e w' => e = .returned (.int .u32 rv) ∧ w = w') := by
        intro w; rw [hrv]; exact r2_rootC p hsm w
      rw [← hrv] at HR
      clear hrv
      go_wp2_with (first | (go_at_call 155; (with_reducible refine (HRT.out _).mono ?_); rintro e w' ⟨rfl, rfl⟩))
      go_roundw
      case rel =>
        refine ⟨i + 1, by omega, by go_num, ?_, HB0.out.set_other _ _ (by simp), HBP.out.set_other _ _ (by simp; omega), HG.out.setCell _ _ (by simp)⟩
        rw [← rootC_set, HR.out]
        exact HB1.out.set _ _
      case measure => simp [intOf]; omega
    · obtain rfl : i = 64 := by omega
      clear hB1 hB0 hBP hg
      go_wp2_with (first
        | (refine wpList_load_blk rfl _ _ rfl (w.heap.size + 1) rfl 238 (rootC 64 true 64) HB1.out _ Tryz.underlying238 rfl (by rw [info_Constants]; unfold rootC; rw [Sha.cellsF_length]) ?_)
        | (refine wpList_store_blk rfl _ _ _ rfl w.heap.size (rootC 64 true 64) rfl rfl 238 _ HB0.out (by rw [info_Constants]; unfold rootC; rw [Sha.cellsF_length]) (by unfold rootC; rw [Sha.cellsF_length]; rfl) (cellsF_one _ _) ?_; intro w2 hz2 hB2 hg2))
      exact bodyPost_ret (results_blk rfl _ _ w.heap.size 238 (rootC 64 true 64) _ rfl hB2 Tryz.underlying238 rfl (by rw [info_Constants]; unfold rootC; rw [Sha.cellsF_length])) rfl ⟨rfl, HG.out.fresh hg2 (by simp)⟩
theorem info_First : (Tryz.prog.info? 213).map (·.size) = some 8 := by kernel_rfl

set_option maxRecDepth 10000 in
set_option maxHeartbeats 4000000 in
theorem r2_First (w : World) :
    Calls Tryz.prog 132 #[] w fun e w' => e = .returned (.agg (rootC 8 false 8).toArray) ∧ Chg w w' [] := by
  have HB1 : Hid (Blk ((w.alloc (.cells (List.replicate 8 (.int .u32 0)).toArray 213)).alloc (.cells (List.replicate 8 (.int .u32 0)).toArray 213)) (w.heap.size + 1) (rootC 8 false 0) 213) := by
    rw [rootC_zero]
    have := Blk.new (w.alloc (.cells (List.replicate 8 (.int .u32 0)).toArray 213)) (List.replicate 8 (.int .u32 0)) 213
    rw [World.size_alloc] at this
    exact this
  have HB0 := Lib.hid ((Blk.new w (List.replicate 8 (.int .u32 0)) 213).alloc (.cells (List.replicate 8 (.int .u32 0)).toArray 213))
  go_enter Tryz.func132, Tryz.ntmps132
  go_wp2_with (first
    | (go_at_call 154; ((with_reducible refine (r2_primes _).mono ?_); rintro e w1 ⟨rfl, hg1⟩; have HC1 := Lib.hid (HB1.out.kept hg1 (by simp)); have HC0 := Lib.hid (HB0.out.kept hg1 (by simp)); have HG1 := Lib.hid ((((Chg.refl w []).alloc _).alloc _).trans hg1); clear hg1))
    | (refine wpList_store_blk rfl _ _ _ rfl w1.heap.size (u64s PL) rfl rfl 253 (List.replicate 64 (.int .u64 0)) (Blk.new w1 _ _) info_253 rfl (u64s_one PL) ?_; intro w2 hz2 hB2 hg2; have HB2 := Lib.hid hB2; have HG2 := Lib.hid hg2; clear hB2 hg2))
  have hz1 := HG1.out.size
  have HCa := Lib.hid ((HC1.out.alloc _).kept HG2.out (by have := HC1.out.lt; simp; omega))
  have HCb := Lib.hid ((HC0.out.alloc _).kept HG2.out (by have := HC0.out.lt; simp; omega))
  have HGa := Lib.hid ((HG1.out.alloc _).fresh HG2.out (by simp; omega))
  have hl1 := HC1.out.lt
  clear HB1 HB0 HC1 HC0 HG1 HG2
  obtain ⟨B, hB⟩ : ∃ B, B = w1.heap.size := ⟨_, rfl⟩
  rw [← hB] at HB2 hl1 ⊢
  clear hB hz1 hz2
  go_loopw [3] (fun v3 wr => ∃ i : Nat, i ≤ 8 ∧ v3 = .int .i64 i ∧ Blk wr (w.heap.size + 1) (rootC 8 false i) 213 ∧ Blk wr w.heap.size (List.replicate 8 (.int .u32 0)) 213 ∧ Blk wr B (u64s PL) 253 ∧ Chg w wr [])
    (fun v3 _ => 8 - (intOf v3).toNat)
  case atStart => exact ⟨0, by omega, rfl, HCa.out, HCb.out, HB2.out, HGa.out⟩
  case round =>
    clear HCa HCb HB2 HGa
    obtain ⟨i, hi, rfl, hB1, hB0, hBP, hg⟩ := hrel
    have HB1 := Lib.hid hB1
    have HB0 := Lib.hid hB0
    have HBP := Lib.hid hBP
    have HG := Lib.hid hg
    by_cases hlt : i < 8
    · have hcp : wr.cell? ⟨B, i, none⟩ = some (.int .u64 (PL.getD i 0)) := by rw [hBP.cell, PL_get (by omega)]
      have hsm := PL_small (j := i) (by omega)
      have hcl : wr.cell? ⟨w.heap.size + 1, i, none⟩ = some (.int .u32 0) := by
        rw [hB1.cell]; unfold rootC; rw [Sha.cellsF_get hlt, if_neg (by omega)]
      have hf : ∀ j, wr.frozen? ⟨w.heap.size + 1, j, none⟩ = false := fun j => hB1.frozen j
      have hl := hB1.lt
      obtain ⟨p, hp⟩ : ∃ p, p = PL.getD i 0 := ⟨_, rfl⟩
      have HR : Hid (rootV false i = ((rootN false p 40 % 4294967296 : Nat) : Int)) := by unfold Hid rootV; rw [hp]
      rw [← hp] at hcp hsm
      clear hp hB1 hB0 hBP hg
      obtain ⟨rv, hrv⟩ : ∃ rv, rv = ((rootN false p 40 % 4294967296 : Nat) : Int) := ⟨_, rfl⟩
      have HRT : Hid (∀ w, Calls Tryz.prog 155 #[.int .u64 p, .bool false] w fun e w' => e = .returned (.int .u32 rv) ∧ w = w') := by
        intro w; rw [hrv]; exact r2_rootS p hsm w
      rw [← hrv] at HR
      clear hrv
      go_wp2_with (first | (go_at_call 155; (with_reducible refine (HRT.out _).mono ?_); rintro e w' ⟨rfl, rfl⟩))
      go_roundw
      case rel =>
        refine ⟨i + 1, by omega, by go_num, ?_, HB0.out.set_other _ _ (by simp), HBP.out.set_other _ _ (by simp; omega), HG.out.setCell _ _ (by simp)⟩
        rw [← rootC_set, HR.out]
        exact HB1.out.set _ _
      case measure => simp [intOf]; omega
    · obtain rfl : i = 8 := by omega
      clear hB1 hB0 hBP hg
      go_wp2_with (first
        | (refine wpList_load_blk rfl _ _ rfl (w.heap.size + 1) rfl 213 (rootC 8 false 8) HB1.out _ Tryz.underlying213 rfl (by rw [info_First]; unfold rootC; rw [Sha.cellsF_length]) ?_)
        | (refine wpList_store_blk rfl _ _ _ rfl w.heap.size (rootC 8 false 8) rfl rfl 213 _ HB0.out (by rw [info_First]; unfold rootC; rw [Sha.cellsF_length]) (by unfold rootC; rw [Sha.cellsF_length]; rfl) (cellsF_one _ _) ?_; intro w2 hz2 hB2 hg2))
      exact bodyPost_ret (results_blk rfl _ _ w.heap.size 213 (rootC 8 false 8) _ rfl hB2 Tryz.underlying213 rfl (by rw [info_First]; unfold rootC; rw [Sha.cellsF_length])) rfl ⟨rfl, HG.out.fresh hg2 (by simp)⟩
end Go.Proofs.YtfdhgakalojahaaGreatDoor

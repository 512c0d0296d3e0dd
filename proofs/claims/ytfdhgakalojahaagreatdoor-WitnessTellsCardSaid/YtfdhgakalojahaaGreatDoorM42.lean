/- WALKS: has a tree that value? -/
import Derived.BigQuiet
import Derived.Deep.QuietTactic
import Derived.Deep.RegionHeld3
import Derived.Deep.RegionWith
import Derived.Deep.CutRange
import Derived.Test.YtfdhgakalojahaaGreatDoorM39
import Derived.Test.YtfdhgakalojahaaGreatDoorM41
import Derived.Test.YtfdhgakalojahaaGreatDoorM03
set_option linter.unusedSimpArgs false
set_option linter.unusedVariables false
set_option linter.unnecessarySimpa false
set_option linter.unusedSectionVars false
namespace Go.Proofs.YtfdhgakalojahaaGreatDoor
open Go Go.RowKit Tree

theorem info_st : (Tryz.prog.info? 48).map (·.size) = some 6 := by kernel_rfl
theorem info_rst : (Tryz.prog.info? 50).map (·.size) = some 6 := by kernel_rfl

theorem LstK.range {w : World} {g n cap : Nat} {e : TypeId} {sz : Nat} {xs : List Value} (h : LstK w (.slice (some ⟨g, 0, none⟩) n cap) e sz n xs) {F : Nat → Prop} {l : List StepP} (hs : StepsAt w F l xs) (i : Nat) (s : StepP) (hi : l[i]? = some s) :
    ∃ sk, RowAt w F sk (strs s.keys) ∧ w.rangeAt g (i * 6) (stepC s sk) := by
  obtain ⟨sk, h1, h2⟩ := hs.get i s hi
  refine ⟨sk, h1, fun j v hv => ?_⟩
  rw [show i * 6 + j = 6 * i + j from by omega]
  exact h.cell rfl _ v (h2 j v hv)

theorem stepsL_mem : ∀ {l : List Tr} {s : StepP}, s ∈ stepsL l → ∃ (i : Nat) (u : Tr), l[i]? = some u ∧ s ∈ stepsT u
  | [], s, h => by simp [stepsL] at h
  | t :: l, s, h => by
    simp only [stepsL, List.mem_append] at h
    rcases h with h | h
    · exact ⟨0, t, rfl, h⟩
    · obtain ⟨i, u, h1, h2⟩ := stepsL_mem h
      exact ⟨i + 1, u, by simpa using h1, h2⟩

theorem step_keys : ∀ (k : Nat) (t : Tr) (F : Nat → Prop) (v : Value) (w : World), (szT t).nodes ≤ k → ItemAt w F t v → ∀ s ∈ stepsT t, s.keys.length ≤ (szT t).nodes := by
  intro k
  induction k with
  | zero => intro t F v w h; have := nodes_pos t; omega
  | succ k ih =>
    intro t F v w hk hi s hs
    have hit : ∃ vv, ItemsAt w F (itemsT t) vv := by
      cases t <;> simp only [ItemAt] at hi <;> try exact ⟨[], rfl⟩
      · obtain ⟨_, _, vv, _, _, _, _, _, _, _, h⟩ := hi; exact ⟨vv, h⟩
      · obtain ⟨_, _, _, vv, _, _, _, _, _, _, _, _, _, _, h⟩ := hi; exact ⟨vv, h⟩
    obtain ⟨vv, hvv⟩ := hit
    have hil := items_length t
    rw [stepsT_eq, List.mem_append] at hs
    rcases hs with hs | hs
    · obtain ⟨i, u, h1, h2⟩ := stepsL_mem hs
      obtain ⟨x, _, hx⟩ := hvv.get i u h1
      have hun := item_nodes h1
      have := ih u F x w (by omega) hx s h2
      omega
    · simp only [List.mem_singleton] at hs
      subst hs
      cases t <;> try (simp only [headStep, List.length_nil]; omega)
      simp only [ItemAt] at hi
      obtain ⟨_, _, _, _, _, _, h, _⟩ := hi
      simp only [headStep, itemsT] at hil ⊢
      omega

set_option maxRecDepth 200000 in
set_option maxHeartbeats 16000000 in
theorem law_is (F F2 : Nat → Prop) (tb : Nat) (t : Tr) (cs : List Value) (w : World) (hT : TreeAt w F tb t) (hF : ∀ k, F k → k < w.heap.size) (hV : ValAt w F2 t cs) (hF2 : ∀ k, F2 k → k < w.heap.size) (hn : (szT t).nodes ≤ 4294967296) :
    Calls Tryz.prog 10 #[.pointer (some ⟨tb, 0, none⟩), .agg cs.toArray] w fun e w' => e = .returned (.bool true) ∧ Chg w w' [] := by
  have hc6 := hV.length
  have hcb : (Value.agg cs.toArray).cells = cs.toArray := rfl
  obtain ⟨w0, hw0⟩ : ∃ x, x = w.alloc (.cells cs.toArray 42) := ⟨_, rfl⟩
  have HG0 : Hid (Chg w w0 []) := by rw [hw0]; exact Lib.hid ((Chg.refl w []).alloc _)
  have hRG : w0.rangeAt w.heap.size 0 cs := fun j v hv => by rw [hw0, Nat.zero_add]; exact ((Blk.new w cs 42).cell j).trans hv
  have HW := Lib.hid hw0
  have HT : Hid (∀ wx, Chg w wx [] → Calls Tryz.prog 34 #[.pointer (some ⟨tb, 0, none⟩)] wx (TreeStepsPost t wx)) := Lib.hid fun wx hx => by
    obtain ⟨v, h1, h2, h3⟩ := hT
    exact tree_Steps F tb t wx ⟨v, hx.keeps h1, ItemAt.kept (hx.keepsF hF (by simp)) (fun _ h => h) _ _ h2, Nat.lt_of_lt_of_le h3 hx.size⟩ (fun k hk => Nat.lt_of_lt_of_le (hF k hk) hx.size) hn
  have HV : Hid (∀ wx, Chg w wx [] → Calls Tryz.prog 35 #[.agg cs.toArray] wx (RStepsPost F2 t wx)) := Lib.hid fun wx hx =>
    r10_Steps (szT t).nodes t F2 cs wx (Nat.le_refl _) hn (ValAt.kept (hx.keepsF hF2 (by simp)) (fun _ h => h) _ _ hV) (fun k hk => Nat.lt_of_lt_of_le (hF2 k hk) hx.size)
  have HF2 := Lib.hid hF2
  have HKB : Hid (∀ s ∈ stepsT t, s.keys.length ≤ 4294967296) := Lib.hid fun s hs => by
    obtain ⟨v, _, h2, _⟩ := hT
    exact Nat.le_trans (step_keys _ t F v w (Nat.le_refl _) h2 s hs) hn
  have hu := Tryz.underlying42
  have hi : (Tryz.prog.info? 42).map (·.size) = some cs.length := by rw [hc6]; exact info_val
  have hcl : ∃ c0 c1 c2 c3 c4 c5 : Value, cs = [c0, c1, c2, c3, c4, c5] := by
    match cs, hc6 with
    | [c0, c1, c2, c3, c4, c5], _ => exact ⟨c0, c1, c2, c3, c4, c5, rfl⟩
  obtain ⟨c0, c1, c2, c3, c4, c5, rfl⟩ := hcl
  have q0 : w0.cell? ⟨w.heap.size, 0, none⟩ = some c0 := hRG 0 _ rfl
  have q1 : w0.cell? ⟨w.heap.size, 1, none⟩ = some c1 := hRG 1 _ rfl
  have q2 : w0.cell? ⟨w.heap.size, 2, none⟩ = some c2 := hRG 2 _ rfl
  have q3 : w0.cell? ⟨w.heap.size, 3, none⟩ = some c3 := hRG 3 _ rfl
  have q4 : w0.cell? ⟨w.heap.size, 4, none⟩ = some c4 := hRG 4 _ rfl
  have q5 : w0.cell? ⟨w.heap.size, 5, none⟩ = some c5 := hRG 5 _ rfl
  clear hT hV hF hF2 hw0 hRG hu hi hc6
  go_enter Tryz.func10, Tryz.ntmps10
  go_wp2_with fail
  rw [← HW.out]
  go_region_held3 (fun w' => w'.cell? ⟨w.heap.size, 0, none⟩ = some c0 ∧ w'.cell? ⟨w.heap.size, 1, none⟩ = some c1 ∧ w'.cell? ⟨w.heap.size, 2, none⟩ = some c2 ∧ w'.cell? ⟨w.heap.size, 3, none⟩ = some c3 ∧ w'.cell? ⟨w.heap.size, 4, none⟩ = some c4 ∧ w'.cell? ⟨w.heap.size, 5, none⟩ = some c5)
    (first | exact ⟨q0, q1, q2, q3, q4, q5⟩ | exact ⟨HG1.out.keeps q0, HG1.out.keeps q1, HG1.out.keeps q2, HG1.out.keeps q3, HG1.out.keeps q4, HG1.out.keeps q5⟩ | exact ⟨HG2.out.keeps (HG1.out.keeps q0), HG2.out.keeps (HG1.out.keeps q1), HG2.out.keeps (HG1.out.keeps q2), HG2.out.keeps (HG1.out.keeps q3), HG2.out.keeps (HG1.out.keeps q4), HG2.out.keeps (HG1.out.keeps q5)⟩)
    (first
      | (go_at_call 34; refine (HT.out _ (by (repeat (first | exact HG0.out | with_reducible refine Chg.drewN ?_ _ | with_reducible refine Chg.drew ?_ | with_reducible refine Chg.alloc ?_ _ | with_reducible refine Chg.setCell ?_ _ _ (by simp) | with_reducible refine Chg.setCell ?_ _ _ (by simp; omega))))).mono ?_; rintro e w1 ⟨g1, cap1, G1, xs1, rfl, k1, k2, k3, k4, k5⟩; have HG1 := Lib.hid k3; have K1 := Lib.hid k1; have K2 := Lib.hid k2; have K4 := Lib.hid k4; have K5 := Lib.hid k5; have HC1 : Hid (Chg w w1 []) := Lib.hid ((HG0.out.drew).trans k3); clear k1 k2 k3 k4 k5)
      | (go_at_call 35; refine (HV.out _ HC1.out).mono ?_; rintro e w2 ⟨g2, cap2, xs2, rfl, m1, m2, m3, m4⟩; have HG2 := Lib.hid m3; have M1 := Lib.hid m1; have M2 := Lib.hid m2; have M4 := Lib.hid m4; clear m1 m2 m3 m4))
  have HR2 := Lib.hid (HC1.out.trans HG2.out)
  have HK1 := Lib.hid (K1.out.kept HG2.out (by simp))
  have HS1 := Lib.hid (StepsAt.kept (HG2.out.keepsF K5.out (by simp)) (fun _ h => h) _ _ K2.out)
  have HG1F : Hid (∀ k, G1 k → k < w2.heap.size) := Lib.hid fun k hk => Nat.lt_of_lt_of_le (K5.out k hk) HG2.out.size
  have HF22 : Hid (∀ k, F2 k → k < w2.heap.size) := Lib.hid fun k hk => Nat.lt_of_lt_of_le (HF2.out k hk) HR2.out.size
  clear q0 q1 q2 q3 q4 q5 K1 K2 K4 K5 HG1 HG2 HC1 HT HV HF2
  obtain ⟨N, hN⟩ : ∃ N, N = (szT t).nodes := ⟨_, rfl⟩
  rw [← hN] at hn HK1 M1 ⊢
  have HNN := Lib.hid hN
  clear hN
  go_wp2_with fail
  go_loopw [7] (fun v7 wr => ∃ i : Nat, i ≤ N ∧ v7 = .int .i64 i ∧ Chg w2 wr []) (fun v7 _ => N - (intOf v7).toNat)
  case atStart => exact ⟨0, by omega, rfl, by (repeat (first | exact Chg.refl w2 [] | with_reducible refine Chg.drewN ?_ _ | with_reducible refine Chg.drew ?_ | with_reducible refine Chg.alloc ?_ _ | with_reducible refine Chg.setCell ?_ _ _ (by simp) | with_reducible refine Chg.setCell ?_ _ _ (by simp; omega)))⟩
  case round =>
    obtain ⟨i, hi, rfl, hg⟩ := hrel
    have HG := Lib.hid hg
    clear hg
    by_cases hlt : i < N
    · obtain ⟨s, hs⟩ : ∃ s, (stepsT t)[i]? = some s := ⟨_, List.getElem?_eq_getElem (by rw [stepsT_length, ← HNN.out]; exact hlt)⟩
      obtain ⟨sk1, r1, k1⟩ := (HK1.out.kept HG.out (by simp)).range (StepsAt.kept (HG.out.keepsF HG1F.out (by simp)) (fun _ h => h) _ _ HS1.out) i s hs
      obtain ⟨sk2, r2, k2⟩ := (M1.out.kept HG.out (by simp)).range (StepsAt.kept (HG.out.keepsF HF22.out (by simp)) (fun _ h => h) _ _ M2.out) i s hs
      obtain ⟨a1, cc1, rfl, hc1⟩ := r1.cell
      obtain ⟨a2, cc2, rfl, hc2⟩ := r2.cell
      have hkl : (strs s.keys).length = s.keys.length := by simp [strs]
      rw [hkl] at k1 k2
      have HCA := Lib.hid hc1
      have HCB := Lib.hid hc2
      have HL1 := Lib.hid (HK1.out.lt rfl)
      have HL2 := Lib.hid (M1.out.lt rfl)
      have p0 := k1 0 _ rfl
      have p1 := k1 1 _ rfl
      have p2 := k1 2 _ rfl
      have p3 := k1 3 _ rfl
      have p4 := k1 4 _ rfl
      have p5 := k1 5 _ rfl
      have z0 := k2 0 _ rfl
      have z1 := k2 1 _ rfl
      have z2 := k2 2 _ rfl
      have z3 := k2 3 _ rfl
      have z4 := k2 4 _ rfl
      have z5 := k2 5 _ rfl
      simp only [Nat.add_zero] at p0 z0
      have HS := Lib.hid hs
      have hkl2 : s.keys.length ≤ 4294967296 := HKB.out s (List.mem_iff_getElem?.2 ⟨i, hs⟩)
      clear hs r1 r2 k1 k2 hc1 hc2 hkl
      go_upto_region 9 with fail
      go_cut [8, 9] from 22 to 95 (fun s8 s9 wx => ∃ b1 b2, s8 = .pointer (some ⟨b1, 0, none⟩) ∧ s9 = .pointer (some ⟨b2, 0, none⟩) ∧ Blk wx b1 (stepC s (.slice a1 s.keys.length cc1)) 48 ∧ Blk wx b2 (stepC s (.slice a2 s.keys.length cc2)) 50 ∧ Chg wr wx [])
      case first =>
        go_region_held3 (fun w' => w'.cell? ⟨g1, i * 6, none⟩ = some (.int .i64 s.sort) ∧ w'.cell? ⟨g1, i * 6 + 1, none⟩ = some (.bool s.flag) ∧ w'.cell? ⟨g1, i * 6 + 2, none⟩ = some (.int .u64 s.bits) ∧ w'.cell? ⟨g1, i * 6 + 3, none⟩ = some (.string s.text) ∧ w'.cell? ⟨g1, i * 6 + 4, none⟩ = some (.int .i64 s.count) ∧ w'.cell? ⟨g1, i * 6 + 5, none⟩ = some (.slice a1 s.keys.length cc1) ∧
           w'.cell? ⟨g2, i * 6, none⟩ = some (.int .i64 s.sort) ∧ w'.cell? ⟨g2, i * 6 + 1, none⟩ = some (.bool s.flag) ∧ w'.cell? ⟨g2, i * 6 + 2, none⟩ = some (.int .u64 s.bits) ∧ w'.cell? ⟨g2, i * 6 + 3, none⟩ = some (.string s.text) ∧ w'.cell? ⟨g2, i * 6 + 4, none⟩ = some (.int .i64 s.count) ∧ w'.cell? ⟨g2, i * 6 + 5, none⟩ = some (.slice a2 s.keys.length cc2))
          (first | exact ⟨p0, p1, p2, p3, p4, p5, z0, z1, z2, z3, z4, z5⟩ | exact (fun h : Chg wr _ [] => ⟨h.keeps p0, h.keeps p1, h.keeps p2, h.keeps p3, h.keeps p4, h.keeps p5, h.keeps z0, h.keeps z1, h.keeps z2, h.keeps z3, h.keeps z4, h.keeps z5⟩) (by (repeat (first | exact Chg.refl wr [] | with_reducible refine Chg.drewN ?_ _ | with_reducible refine Chg.drew ?_ | with_reducible refine Chg.alloc ?_ _ | with_reducible refine Chg.setCell ?_ _ _ (by simp) | with_reducible refine Chg.setCell ?_ _ _ (by simp; omega)))))
          (fail)
        all_goals
          go_wp2
          go_meet
        all_goals first
          | exact ⟨wr.heap.size, wr.heap.size + 1, rfl, rfl, (Blk.new wr (stepC s (.slice a1 s.keys.length cc1)) 48).alloc _, Blk.new1 wr _ (stepC s (.slice a2 s.keys.length cc2)) 50, by (repeat (first | exact Chg.refl wr [] | with_reducible refine Chg.drewN ?_ _ | with_reducible refine Chg.drew ?_ | with_reducible refine Chg.alloc ?_ _ | with_reducible refine Chg.setCell ?_ _ _ (by simp) | with_reducible refine Chg.setCell ?_ _ _ (by simp; omega)))⟩
          | exact ⟨wr.heap.size + 1, wr.heap.size, rfl, rfl, Blk.new1 wr _ (stepC s (.slice a1 s.keys.length cc1)) 48, (Blk.new wr (stepC s (.slice a2 s.keys.length cc2)) 50).alloc _, by (repeat (first | exact Chg.refl wr [] | with_reducible refine Chg.drewN ?_ _ | with_reducible refine Chg.drew ?_ | with_reducible refine Chg.alloc ?_ _ | with_reducible refine Chg.setCell ?_ _ _ (by simp) | with_reducible refine Chg.setCell ?_ _ _ (by simp; omega)))⟩
      case rest =>
        obtain ⟨B1, B2, rfl, rfl, hb1, hb2, hg4⟩ := hcut
        obtain ⟨w4, hw4⟩ : ∃ y, y = wc := ⟨_, rfl⟩
        rw [← hw4] at hb1 hb2 hg4 ⊢
        clear hw4
        have c0 := hb1.cell 0
        have c1 := hb1.cell 1
        have c2 := hb1.cell 2
        have c3 := hb1.cell 3
        have c4 := hb1.cell 4
        have c5 := hb1.cell 5
        have d0 := hb2.cell 0
        have d1 := hb2.cell 1
        have d2 := hb2.cell 2
        have d3 := hb2.cell 3
        have d4 := hb2.cell 4
        have d5 := hb2.cell 5
        simp only [stepC, List.getElem?_cons_zero, List.getElem?_cons_succ] at c0 c1 c2 c3 c4 c5 d0 d1 d2 d3 d4 d5
        have HG4 := Lib.hid (HG.out.trans hg4)
        have HG5 := Lib.hid hg4
        clear p0 p1 p2 p3 p4 p5 z0 z1 z2 z3 z4 z5 hg4 hb1 hb2
        go_wp2_with fail
        go_loopw [10] (fun v10 wx => ∃ k : Nat, k ≤ s.keys.length ∧ v10 = .int .i64 k ∧ Chg w4 wx []) (fun v10 _ => s.keys.length - (intOf v10).toNat)
        case atStart => exact ⟨0, by omega, rfl, by (repeat (first | exact Chg.refl w4 [] | with_reducible refine Chg.drewN ?_ _ | with_reducible refine Chg.drew ?_ | with_reducible refine Chg.alloc ?_ _ | with_reducible refine Chg.setCell ?_ _ _ (by simp) | with_reducible refine Chg.setCell ?_ _ _ (by simp; omega)))⟩
        case round =>
          obtain ⟨k, hk, rfl, hx⟩ := hrel
          have HX := Lib.hid hx
          have e5 := hx.keeps c5
          have f5 := hx.keeps d5
          clear hx
          by_cases hkt : k < s.keys.length
          · obtain ⟨key, hkey⟩ : ∃ key, s.keys[k]? = some key := ⟨_, List.getElem?_eq_getElem hkt⟩
            have hsk : (strs s.keys)[k]? = some (.string key) := by simp [strs, hkey]
            obtain ⟨ba, oa, rfl, _, x1⟩ := HCA.out k _ hsk
            obtain ⟨bb, ob, rfl, _, x2⟩ := HCB.out k _ hsk
            have y1 := HX.out.keeps (HG5.out.keeps x1)
            have y2 := HX.out.keeps (HG5.out.keeps x2)
            clear hkey hsk x1 x2
            go_upto_region 15 with fail
            go_region_held3 (fun w' => w'.cell? ⟨B1, 5, none⟩ = some (.slice (some ⟨ba, oa, none⟩) s.keys.length cc1) ∧ w'.cell? ⟨B2, 5, none⟩ = some (.slice (some ⟨bb, ob, none⟩) s.keys.length cc2) ∧ w'.cell? ⟨ba, oa + k, none⟩ = some (.string key) ∧ w'.cell? ⟨bb, ob + k, none⟩ = some (.string key))
              (first | exact ⟨e5, f5, y1, y2⟩)
              (fail)
            go_wp2_with fail
            go_roundw
            case rel => exact ⟨k + 1, by omega, by go_num, by (repeat (first | exact HX.out | with_reducible refine Chg.drewN ?_ _ | with_reducible refine Chg.drew ?_ | with_reducible refine Chg.alloc ?_ _ | with_reducible refine Chg.setCell ?_ _ _ (by simp) | with_reducible refine Chg.setCell ?_ _ _ (by simp; omega)))⟩
            case measure => simp [intOf]; omega
          · obtain rfl : k = s.keys.length := by omega
            go_wp2_with fail
            go_roundw
            case rel => exact ⟨i + 1, by omega, by go_num, by (repeat (first | exact HG4.out.trans HX.out | with_reducible refine Chg.drewN ?_ _ | with_reducible refine Chg.drew ?_ | with_reducible refine Chg.alloc ?_ _ | with_reducible refine Chg.setCell ?_ _ _ (by simp) | with_reducible refine Chg.setCell ?_ _ _ (by simp; omega)))⟩
            case measure => simp [intOf]; omega
    · obtain rfl : i = N := by omega
      go_wp2_with fail
      go_ret
      exact ⟨rfl, HR2.out.trans HG.out⟩
end Go.Proofs.YtfdhgakalojahaaGreatDoor

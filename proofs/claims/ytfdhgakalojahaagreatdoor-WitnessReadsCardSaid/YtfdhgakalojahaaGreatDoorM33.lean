/- WALKS: the reference's layer 10: keys in rising order; are two alike? WALKS: the reference's layer 10: do two keys say the same? -/
import Derived.Deep.CutRange
import Derived.Deep.RegionWith
import Derived.BigQuiet
import Derived.StillTailTactics
import Derived.Deep.RegionHeld3
import Derived.Test.YtfdhgakalojahaaGreatDoorM31
import Derived.Test.YtfdhgakalojahaaGreatDoorM01
import Derived.Test.YtfdhgakalojahaaGreatDoorM09
set_option linter.unusedSimpArgs false
set_option linter.unusedVariables false
set_option linter.unnecessarySimpa false
set_option linter.unusedSectionVars false
namespace Go.Proofs.YtfdhgakalojahaaGreatDoor
open Go Go.RowKit Tree

def KeyOK (s : ByteArray) : Prop := Utf.rightB s = true ∧ s.size ≤ 2147483648

theorem strs_append (l m : List ByteArray) : strs (l ++ m) = strs l ++ strs m := by simp [strs]
theorem strs_cons (x : ByteArray) (m : List ByteArray) : strs (x :: m) = .string x :: strs m := rfl
theorem strs_take (l : List ByteArray) (k : Nat) : (strs l).take k = strs (l.take k) := by simp [strs, List.map_take]
theorem strs_drop (l : List ByteArray) (k : Nat) : (strs l).drop k = strs (l.drop k) := by simp [strs, List.map_drop]

def SortedPost (ks : List ByteArray) (w : World) (e : Ending) (w' : World) : Prop :=
  (∃ v, e = .returned v ∧ Lst w' v 9 (strs (sortK ks)) ∧ ∀ g, v.ownBlock = some g → w.heap.size ≤ g) ∧ Chg w w' []

set_option maxRecDepth 100000 in
set_option maxHeartbeats 4000000 in
theorem r10_sorted (N : Nat) : ∀ (ks : List ByteArray) (sl : Value) (w : World), ks.length ≤ N → RowC w sl 1 ks.length (strs ks) → (∀ s ∈ ks, KeyOK s) → ks.length ≤ 4294967296 →
    Calls Tryz.prog 100 #[sl] w (SortedPost ks w) := by
  induction N using Nat.strongRecOn with
  | _ N ih => ?_
  intro ks sl w hN hR hk hl
  obtain ⟨a, c, rfl, hac, _⟩ := hR.form
  have HR := Lib.hid hR
  have HK := Lib.hid hk
  have HIH := Lib.hid ih
  clear hR hk ih
  by_cases hs : ks.length < 2
  · have hsort : sortK ks = ks := by
      rw [sortK_srt]
      match ks, hs with
      | [], _ => exact srt_nil _
      | [x], _ => exact srt_one _ x
    by_cases h0 : ks.length = 0
    · have hks : ks = [] := List.eq_nil_of_length_eq_zero h0
      subst hks
      go_enter Tryz.func100, Tryz.ntmps100
      obtain ⟨ti, hti, _⟩ := info_parts info_string
      go_wp2_with (first
        | (at_builtin; refine wpList_append_void rfl _ _ _ rfl 9 ti Tryz.underlying40 hti _ 0 0 (Nat.le_refl _) (by rfl) a c (by rfl) ?_))
      go_ret
      exact ⟨⟨_, rfl, by rw [hsort]; exact Lst.lit _ [] _ 0 rfl (by decide), fun g hg => by simp [Value.ownBlock] at hg; omega⟩, by (repeat (first | exact Chg.refl _ _ | with_reducible refine Chg.drewN ?_ _ | with_reducible refine Chg.drew ?_ | with_reducible refine Chg.alloc ?_ _ | with_reducible refine Chg.setCell ?_ _ _ (by simp) | with_reducible refine Chg.setCell ?_ _ _ (by simp; omega)))⟩
    · have h1 : ks.length = 1 := by omega
      obtain ⟨b, o, rfl, hcell⟩ := HR.out.base (by omega) (by decide)
      have HS := Lib.hid hsort
      clear hsort hs h0
      have HC' : Hid (∀ j v, (strs ks)[j]? = some v → (w.alloc (.cells #[] 9)).cell? ⟨b, o + j, none⟩ = some v) := fun j v hv => ((Chg.refl w []).alloc _).keeps (hcell j v hv)
      go_enter Tryz.func100, Tryz.ntmps100
      go_wp2_with (first
        | (at_builtin; go_loud (refine wpList_append2 rfl _ _ _ rfl 9 zstr 16 Tryz.underlying40 info_string rfl _ [] (by rfl) (by exact Lst.lit _ [] _ 0 rfl (by decide)) b o ks.length c (strs ks) (by rfl) (by omega) (by simp [strs]) (by exact fun j v hv => by exact HC'.out j v hv) (by exact strs_one ks) (by simp; omega) (by simp; omega) ?_; intro g cap' w3 hL4 hC3 hG3)))
      go_ret
      refine ⟨⟨_, rfl, by rw [HS.out]; exact hL4.norm (by simp [h1]) rfl, fun g' hg' => ?_⟩, Chg.own (sv := .slice none 0 0) (by (repeat (first | exact Chg.refl _ _ | with_reducible refine Chg.drewN ?_ _ | with_reducible refine Chg.drew ?_ | with_reducible refine Chg.alloc ?_ _ | with_reducible refine Chg.setCell ?_ _ _ (by simp) | with_reducible refine Chg.setCell ?_ _ _ (by simp; omega)))) hC3 (fun g hg => by cases hg) (fun g hg => .inr (by have : w.heap.size = g := (by injection hg); omega))⟩
      simp [Value.ownBlock] at hg'; subst hg'
      rcases hG3 with h | h
      · have : w.heap.size = g := by injection h
        omega
      · simp at h; omega
  · obtain ⟨b, o, rfl, hcell⟩ := HR.out.base (by omega) (by decide)
    have hd1 : (ks.length : Int) / 2 = ((ks.length / 2 : Nat) : Int) := by omega
    obtain ⟨h, hh⟩ : ∃ h, h = ks.length / 2 := ⟨_, rfl⟩
    rw [← hh] at hd1
    have hh1 : h < ks.length := by omega
    have hh2 : 1 ≤ h := by omega
    have hRL := HR.out.head h (by omega)
    have hRR := HR.out.tail h (ks.length - h) (c - h) (by omega) (by omega)
    rw [Nat.mul_one, strs_take] at hRL
    rw [Nat.mul_one, strs_drop] at hRR
    simp only [Option.map_some, add_lit] at hRR
    have hln : (ks.take h).length = h := by rw [List.length_take]; omega
    have hrn : (ks.drop h).length = ks.length - h := by rw [List.length_drop]
    have HIL : Hid (∀ w', Chg w w' [] → Calls Tryz.prog 100 #[.slice (some ⟨b, o, none⟩) h c] w' (SortedPost (ks.take h) w')) := fun w' hc =>
      HIH.out h (by omega) (ks.take h) _ w' (by omega) (by rw [hln]; exact hRL.kept hc) (fun s hs => HK.out s (List.mem_of_mem_take hs)) (by omega)
    have HIR : Hid (∀ w', Chg w w' [] → Calls Tryz.prog 100 #[.slice (some ⟨b, o + h, none⟩) (ks.length - h) (c - h)] w' (SortedPost (ks.drop h) w')) := fun w' hc =>
      HIH.out (ks.length - h) (by omega) (ks.drop h) _ w' (by omega) (by rw [hrn]; exact hRR.kept hc) (fun s hs => HK.out s (List.mem_of_mem_drop hs)) (by omega)
    have HS : Hid (List.merge (sortK (ks.take h)) (sortK (ks.drop h)) (leK fun s => s) = sortK ks) := by unfold Hid; rw [sortK_halves, List.take_append_drop]
    have HSL : Hid ((sortK (ks.take h)).length = h ∧ (sortK (ks.drop h)).length = ks.length - h) := by unfold Hid; rw [sortK_length, sortK_length, hln, hrn]; exact ⟨rfl, rfl⟩
    have HMA : Hid (∀ s ∈ sortK (ks.take h), KeyOK s) := fun s hs => HK.out s (List.mem_of_mem_take (sortK_mem.1 hs))
    have HMB : Hid (∀ s ∈ sortK (ks.drop h), KeyOK s) := fun s hs => HK.out s (List.mem_of_mem_drop (sortK_mem.1 hs))
    clear hRL hRR hln hrn hcell hh hs
    have q1 : h ≤ c := by omega
    have q2 : (h : Int) ≤ (c : Int) := by omega
    have q3 : ¬ c = h := by omega
    have q4 : h < c := by omega
    have z1 : IntKind.i64.wrap (h : Int) = (h : Int) := IntWalk.i64_in _ (by omega)
    have z2 : (0 : Int) ≤ (h : Int) := by omega
    have q5 : (h : Int) ≤ (ks.length : Int) := by omega
    go_enter Tryz.func100, Tryz.ntmps100
    go_upto_region 3 with (fail)
    go_cut [3, 4] from 12 to 23 (fun s3 s4 wx => Lst wx s3 9 (strs (sortK (ks.take h))) ∧ Lst wx s4 9 (strs (sortK (ks.drop h))) ∧ Chg w wx [])
    case first =>
      go_region_with (first
        | (go_at_call_of 100 (Value.slice (some ⟨b, o, none⟩) h c); refine (HIL.out _ (by first | exact (Chg.refl w []).drew | exact ((Chg.refl w []).drew).trans hg2)).mono ?_; rintro e w1 ⟨⟨v1, rfl, hL1, ho1⟩, hg1⟩)
        | (go_at_call 100; refine (HIR.out _ (by first | exact (Chg.refl w []).drew | exact ((Chg.refl w []).drew).trans hg1)).mono ?_; rintro e w2 ⟨⟨v2, rfl, hL2, ho2⟩, hg2⟩))
      all_goals (go_wp2_with fail; go_meet)
      all_goals first
        | exact ⟨hL1.kept hg2 (by simp), hL2, (((Chg.refl w []).drew).trans hg1).trans hg2⟩
        | exact ⟨hL1, hL2.kept hg1 (by simp), (((Chg.refl w []).drew).trans hg2).trans hg1⟩
    case rest =>
      obtain ⟨hL1, hL2, hg⟩ := hcut
      have HG := Lib.hid hg
      have hR1 := hL1.rowC
      have hR2 := hL2.rowC
      rw [strs_len, HSL.out.1] at hR1
      rw [strs_len, HSL.out.2] at hR2
      obtain ⟨wb, hwb⟩ : ∃ x, x = wc := ⟨_, rfl⟩
      rw [← hwb] at HG hR1 hR2 ⊢
      obtain ⟨A, hA⟩ : ∃ A, A = sortK (ks.take h) := ⟨_, rfl⟩
      obtain ⟨B, hB⟩ : ∃ B, B = sortK (ks.drop h) := ⟨_, rfl⟩
      rw [← hA] at hR1 HS HMA HSL
      rw [← hB] at hR2 HS HMB HSL
      clear hL1 hL2 hg hwb hA hB HIL HIR
      obtain ⟨a3, c3, rfl, hac3, _⟩ := hR1.form
      obtain ⟨a4, c4, rfl, hac4, _⟩ := hR2.form
      have HR1 := Lib.hid hR1
      have HR2 := Lib.hid hR2
      clear hR1 hR2
      go_wp2_with fail
      go_loopw [3, 4, 5] (fun v3 v4 v5 wr => ∃ (X Y out : List ByteArray), RowC wb v3 1 X.length (strs X) ∧ RowC wb v4 1 Y.length (strs Y) ∧ Lst wr v5 9 (strs out) ∧ Chg wb wr [] ∧ (∀ g, v5.ownBlock = some g → wb.heap.size ≤ g) ∧
          out ++ List.merge X Y (leK fun s => s) = sortK ks ∧ X.length + Y.length + out.length = ks.length ∧ (∀ s ∈ X, KeyOK s) ∧ (∀ s ∈ Y, KeyOK s)) (fun v3 v4 _ _ => slen v3 + slen v4)
      case atStart => exact ⟨A, B, [], by rw [HSL.out.1]; exact HR1.out, by rw [HSL.out.2]; exact HR2.out, Lst.nil _ _, Chg.refl _ _, fun g hg => (by cases hg), HS.out, by rw [HSL.out.1, HSL.out.2]; simp; omega, HMA.out, HMB.out⟩
      case round =>
        obtain ⟨wa, rfl⟩ : ∃ x, x = wr := ⟨_, rfl⟩
        obtain ⟨X, Y, out, hX, hY, hO, hg, ho, hm, hlen, hkx, hky⟩ := hrel
        obtain ⟨a5, c5, rfl, hac5, _⟩ := hX.form
        obtain ⟨a6, c6, rfl, hac6, _⟩ := hY.form
        have HX := Lib.hid hX
        have HY := Lib.hid hY
        have HO := Lib.hid hO
        have HGa := Lib.hid hg
        have HOw := Lib.hid ho
        have HM := Lib.hid hm
        have HKX := Lib.hid hkx
        have HKY := Lib.hid hky
        clear hX hY hO hg ho hm hkx hky
        have HOL : Hid ((strs out).length = out.length) := strs_len out
        match X, Y with
        | [], [] =>
          have hfin : out = sortK ks := by have := HM.out; simpa using this
          have HF := Lib.hid hfin
          clear hfin
          go_wp2_with fail
          go_ret
          exact ⟨⟨_, rfl, by rw [← HF.out]; exact HO.out, fun g hg => Nat.le_trans HG.out.size (HOw.out g hg)⟩, HG.out.trans HGa.out⟩
        | [], y :: Y' =>
          have HM2 : Hid (out ++ [y] ++ List.merge [] Y' (leK fun s => s) = sortK ks) := by unfold Hid; rw [← HM.out, merge_nil_l, merge_nil_l]; simp
          obtain ⟨b6, o6, rfl, hc6⟩ := HY.out.base (by simp) (by decide)
          have hy0 := HGa.out.keeps (hc6 0 (.string y) rfl)
          rw [Nat.add_zero] at hy0
          simp only [List.length_nil, List.length_cons] at hlen hac5 hac6 ⊢
          have hlo : out.length ≤ 4294967296 := by omega
          obtain ⟨m, hm⟩ : ∃ m, m = Y'.length + 1 := ⟨_, rfl⟩
          have HYn : Hid (RowC wb (.slice (some ⟨b6, o6, none⟩) m c6) 1 m (.string y :: strs Y')) := by rw [hm]; exact HY.out
          have HYm := Lib.hid hm
          rw [← hm] at hlen hac6 ⊢
          have t1m : ((m : Int) == 0) = false := by rw [beq_eq_false_iff_ne]; omega
          have t2m : (0 : Int) < (m : Int) := by omega
          have t3m : m ≤ 4294967297 := by omega
          have t4m : 0 < m := by omega
          have t5m : decide (0 < m) = true := decide_eq_true t4m
          clear hm
          clear hc6
          rcases Decidable.em (c6 = 1) with hc1 | hc1
          all_goals
            go_wp2_with fail
            go_quiet (fail)
            go_wp2_with (first
              | (at_builtin; refine wpList_append1 rfl _ _ _ rfl 9 zstr 16 Tryz.underlying40 info_string rfl u5 (strs out) (by rfl) (by exact HO.out.kept (bs := []) (by (repeat (first | exact Chg.refl _ _ | with_reducible refine Chg.drewN ?_ _ | with_reducible refine Chg.drew ?_ | with_reducible refine Chg.alloc ?_ _ | with_reducible refine Chg.setCell ?_ _ _ (by simp) | with_reducible refine Chg.setCell ?_ _ _ (by simp; omega)))) (by simp)) wa.heap.size (.string y) (by rfl) (by exact cell_new (by simp) _ _) rfl (by rw [HOL.out]; omega) (by rw [HOL.out]; omega) ?_; rw [HOL.out]; intro g cap' w3 hL3 hC3 hG3; have HL3 := Lib.hid hL3; have HC3 := Lib.hid hC3; have HG3 := Lib.hid hG3; clear hL3 hC3 hG3))
            go_roundw
            case rel =>
              have z1 := HGa.out.size
              have e1 := HYm.out
              refine ⟨[], Y', out ++ [y], HX.out, (by first | (rw [← strs_len Y']; refine HYn.out.next _ ?_ ?_ <;> (try rw [strs_len]) <;> omega) | (rw [← strs_len Y']; refine RowC.nextNone ?_ ?_ <;> (rw [strs_len]; omega))), (by rw [strs_append]; exact HL3.out.norm (by simp) rfl), Chg.own (sv := .slice none 0 0) (by (repeat (first | exact HGa.out | with_reducible refine Chg.drewN ?_ _ | with_reducible refine Chg.drew ?_ | with_reducible refine Chg.alloc ?_ _ | with_reducible refine Chg.setCell ?_ _ _ (by simp) | with_reducible refine Chg.setCell ?_ _ _ (by simp; omega)))) HC3.out (fun g hg => by cases hg) (fun g hg => .inr (HOw.out g hg)), fun g' hg' => ?_, by rw [← HM2.out], by rw [List.length_append]; simp only [List.length_nil, List.length_cons]; omega, HKX.out, (fun s hs => HKY.out s (by simp [hs]))⟩
              simp [Value.ownBlock] at hg'; subst hg'
              rcases HG3.out with h | h
              · exact HOw.out _ h
              · simp at h; omega
            case measure => simp [slen]; omega
        | x :: X', [] =>
          have HM2 : Hid (out ++ [x] ++ List.merge X' [] (leK fun s => s) = sortK ks) := by unfold Hid; rw [← HM.out, merge_nil_r, merge_nil_r]; simp
          obtain ⟨b5, o5, rfl, hc5⟩ := HX.out.base (by simp) (by decide)
          have hx0 := HGa.out.keeps (hc5 0 (.string x) rfl)
          rw [Nat.add_zero] at hx0
          simp only [List.length_nil, List.length_cons] at hlen hac5 hac6 ⊢
          have hlo : out.length ≤ 4294967296 := by omega
          obtain ⟨m, hm⟩ : ∃ m, m = X'.length + 1 := ⟨_, rfl⟩
          have HXn : Hid (RowC wb (.slice (some ⟨b5, o5, none⟩) m c5) 1 m (.string x :: strs X')) := by rw [hm]; exact HX.out
          have HXm := Lib.hid hm
          rw [← hm] at hlen hac5 ⊢
          have t1m : ((m : Int) == 0) = false := by rw [beq_eq_false_iff_ne]; omega
          have t2m : (0 : Int) < (m : Int) := by omega
          have t3m : m ≤ 4294967297 := by omega
          have t4m : 0 < m := by omega
          have t5m : decide (0 < m) = true := decide_eq_true t4m
          clear hm
          clear hc5
          rcases Decidable.em (c5 = 1) with hc1 | hc1
          all_goals
            go_wp2_with fail
            go_quiet (fail)
            go_wp2_with (first
              | (at_builtin; refine wpList_append1 rfl _ _ _ rfl 9 zstr 16 Tryz.underlying40 info_string rfl u5 (strs out) (by rfl) (by exact HO.out.kept (bs := []) (by (repeat (first | exact Chg.refl _ _ | with_reducible refine Chg.drewN ?_ _ | with_reducible refine Chg.drew ?_ | with_reducible refine Chg.alloc ?_ _ | with_reducible refine Chg.setCell ?_ _ _ (by simp) | with_reducible refine Chg.setCell ?_ _ _ (by simp; omega)))) (by simp)) wa.heap.size (.string x) (by rfl) (by exact cell_new (by simp) _ _) rfl (by rw [HOL.out]; omega) (by rw [HOL.out]; omega) ?_; rw [HOL.out]; intro g cap' w3 hL3 hC3 hG3; have HL3 := Lib.hid hL3; have HC3 := Lib.hid hC3; have HG3 := Lib.hid hG3; clear hL3 hC3 hG3))
            go_roundw
            case rel =>
              have z1 := HGa.out.size
              have e1 := HXm.out
              refine ⟨X', [], out ++ [x], (by first | (rw [← strs_len X']; refine HXn.out.next _ ?_ ?_ <;> (try rw [strs_len]) <;> omega) | (rw [← strs_len X']; refine RowC.nextNone ?_ ?_ <;> (rw [strs_len]; omega))), HY.out, (by rw [strs_append]; exact HL3.out.norm (by simp) rfl), Chg.own (sv := .slice none 0 0) (by (repeat (first | exact HGa.out | with_reducible refine Chg.drewN ?_ _ | with_reducible refine Chg.drew ?_ | with_reducible refine Chg.alloc ?_ _ | with_reducible refine Chg.setCell ?_ _ _ (by simp) | with_reducible refine Chg.setCell ?_ _ _ (by simp; omega)))) HC3.out (fun g hg => by cases hg) (fun g hg => .inr (HOw.out g hg)), fun g' hg' => ?_, by rw [← HM2.out], by rw [List.length_append]; simp only [List.length_nil, List.length_cons]; omega, (fun s hs => HKX.out s (by simp [hs])), HKY.out⟩
              simp [Value.ownBlock] at hg'; subst hg'
              rcases HG3.out with h | h
              · exact HOw.out _ h
              · simp at h; omega
            case measure => simp [slen]; omega
        | x :: X', y :: Y' =>
          obtain ⟨b5, o5, rfl, hc5⟩ := HX.out.base (by simp) (by decide)
          obtain ⟨b6, o6, rfl, hc6⟩ := HY.out.base (by simp) (by decide)
          have hx0 := HGa.out.keeps (hc5 0 (.string x) rfl)
          have hy0 := HGa.out.keeps (hc6 0 (.string y) rfl)
          rw [Nat.add_zero] at hx0 hy0
          simp only [List.length_nil, List.length_cons] at hlen hac5 hac6 ⊢
          have hlo : out.length ≤ 4294967296 := by omega
          obtain ⟨m1, hm1⟩ : ∃ m, m = X'.length + 1 := ⟨_, rfl⟩
          have HXn : Hid (RowC wb (.slice (some ⟨b5, o5, none⟩) m1 c5) 1 m1 (.string x :: strs X')) := by rw [hm1]; exact HX.out
          have HXm := Lib.hid hm1
          rw [← hm1] at hlen hac5 ⊢
          have t1m1 : ((m1 : Int) == 0) = false := by rw [beq_eq_false_iff_ne]; omega
          have t2m1 : (0 : Int) < (m1 : Int) := by omega
          have t3m1 : m1 ≤ 4294967297 := by omega
          have t4m1 : 0 < m1 := by omega
          have t5m1 : decide (0 < m1) = true := decide_eq_true t4m1
          clear hm1
          obtain ⟨m2, hm2⟩ : ∃ m, m = Y'.length + 1 := ⟨_, rfl⟩
          have HYn : Hid (RowC wb (.slice (some ⟨b6, o6, none⟩) m2 c6) 1 m2 (.string y :: strs Y')) := by rw [hm2]; exact HY.out
          have HYm := Lib.hid hm2
          rw [← hm2] at hlen hac6 ⊢
          have t1m2 : ((m2 : Int) == 0) = false := by rw [beq_eq_false_iff_ne]; omega
          have t2m2 : (0 : Int) < (m2 : Int) := by omega
          have t3m2 : m2 ≤ 4294967297 := by omega
          have t4m2 : 0 < m2 := by omega
          have t5m2 : decide (0 < m2) = true := decide_eq_true t4m2
          clear hm2
          clear hc5 hc6
          have kx := HKX.out x (by simp)
          have ky := HKY.out y (by simp)
          have HC := Lib.hid fun w => r3_Compare x y w kx.2 ky.2 kx.1 ky.1
          clear kx ky
          obtain ⟨q, hq⟩ : ∃ q, q = Utf.cmpR x y := ⟨_, rfl⟩
          rw [← hq] at HC
          by_cases hle : q ≤ 0
          · have HM2 : Hid (out ++ [x] ++ List.merge X' (y :: Y') (leK fun s => s) = sortK ks) := by unfold Hid; rw [← HM.out, merge_left (fun s => s) (by rw [← hq]; exact hle)]; simp
            clear hq
            rcases Decidable.em (c5 = 1) with hc1 | hc1
            all_goals
              go_wp2_with fail
              go_still_tail 14, (by kernel_rfl)
              go_wp2_with (first
                | (go_at_call 126; refine (HC.out _).mono ?_; rintro e w1 ⟨rfl, hg1⟩; have HG1 := Lib.hid ((Chg.refl wa []).drew.trans hg1); have hx1 := HG1.out.keeps hx0; have hy1 := HG1.out.keeps hy0; clear hg1)
                | (at_builtin; refine wpList_append1 rfl _ _ _ rfl 9 zstr 16 Tryz.underlying40 info_string rfl u5 (strs out) (by rfl) (by exact (HO.out.kept HG1.out (by simp)).kept (bs := []) (by (repeat (first | exact Chg.refl _ _ | with_reducible refine Chg.drewN ?_ _ | with_reducible refine Chg.drew ?_ | with_reducible refine Chg.alloc ?_ _ | with_reducible refine Chg.setCell ?_ _ _ (by simp) | with_reducible refine Chg.setCell ?_ _ _ (by simp; omega)))) (by simp)) w1.heap.size (.string x) (by rfl) (by exact cell_new (by simp) _ _) rfl (by rw [HOL.out]; omega) (by rw [HOL.out]; omega) ?_; rw [HOL.out]; intro g cap' w3 hL3 hC3 hG3; have HL3 := Lib.hid hL3; have HC3 := Lib.hid hC3; have HG3 := Lib.hid hG3; clear hL3 hC3 hG3))
              go_roundw
              case rel =>
                have z1 := HGa.out.size
                have z2 := HG1.out.size
                have e1 := HXm.out
                have e2 := HYm.out
                refine ⟨X', (y :: Y'), out ++ [x], (by first | (rw [← strs_len X']; refine HXn.out.next _ ?_ ?_ <;> (try rw [strs_len]) <;> omega) | (rw [← strs_len X']; refine RowC.nextNone ?_ ?_ <;> (rw [strs_len]; omega))), (by rw [List.length_cons, ← e2]; exact HYn.out), (by rw [strs_append]; exact HL3.out.norm (by simp) rfl), Chg.own (sv := .slice none 0 0) (by (repeat (first | exact HGa.out.trans HG1.out | with_reducible refine Chg.drewN ?_ _ | with_reducible refine Chg.drew ?_ | with_reducible refine Chg.alloc ?_ _ | with_reducible refine Chg.setCell ?_ _ _ (by simp) | with_reducible refine Chg.setCell ?_ _ _ (by simp; omega)))) HC3.out (fun g hg => by cases hg) (fun g hg => .inr (HOw.out g hg)), fun g' hg' => ?_, by rw [← HM2.out], by rw [List.length_append]; simp only [List.length_nil, List.length_cons]; omega, (fun s hs => HKX.out s (by simp [hs])), HKY.out⟩
                simp [Value.ownBlock] at hg'; subst hg'
                rcases HG3.out with h | h
                · exact HOw.out _ h
                · simp at h; omega
              case measure => simp [slen]; omega
          · have HM2 : Hid (out ++ [y] ++ List.merge (x :: X') Y' (leK fun s => s) = sortK ks) := by unfold Hid; rw [← HM.out, merge_right (fun s => s) (by rw [← hq]; exact hle)]; simp
            clear hq
            rcases Decidable.em (c6 = 1) with hc1 | hc1
            all_goals
              go_wp2_with fail
              go_still_tail 14, (by kernel_rfl)
              go_wp2_with (first
                | (go_at_call 126; refine (HC.out _).mono ?_; rintro e w1 ⟨rfl, hg1⟩; have HG1 := Lib.hid ((Chg.refl wa []).drew.trans hg1); have hx1 := HG1.out.keeps hx0; have hy1 := HG1.out.keeps hy0; clear hg1)
                | (at_builtin; refine wpList_append1 rfl _ _ _ rfl 9 zstr 16 Tryz.underlying40 info_string rfl u5 (strs out) (by rfl) (by exact (HO.out.kept HG1.out (by simp)).kept (bs := []) (by (repeat (first | exact Chg.refl _ _ | with_reducible refine Chg.drewN ?_ _ | with_reducible refine Chg.drew ?_ | with_reducible refine Chg.alloc ?_ _ | with_reducible refine Chg.setCell ?_ _ _ (by simp) | with_reducible refine Chg.setCell ?_ _ _ (by simp; omega)))) (by simp)) w1.heap.size (.string y) (by rfl) (by exact cell_new (by simp) _ _) rfl (by rw [HOL.out]; omega) (by rw [HOL.out]; omega) ?_; rw [HOL.out]; intro g cap' w3 hL3 hC3 hG3; have HL3 := Lib.hid hL3; have HC3 := Lib.hid hC3; have HG3 := Lib.hid hG3; clear hL3 hC3 hG3))
              go_roundw
              case rel =>
                have z1 := HGa.out.size
                have z2 := HG1.out.size
                have e1 := HXm.out
                have e2 := HYm.out
                refine ⟨(x :: X'), Y', out ++ [y], (by rw [List.length_cons, ← e1]; exact HXn.out), (by first | (rw [← strs_len Y']; refine HYn.out.next _ ?_ ?_ <;> (try rw [strs_len]) <;> omega) | (rw [← strs_len Y']; refine RowC.nextNone ?_ ?_ <;> (rw [strs_len]; omega))), (by rw [strs_append]; exact HL3.out.norm (by simp) rfl), Chg.own (sv := .slice none 0 0) (by (repeat (first | exact HGa.out.trans HG1.out | with_reducible refine Chg.drewN ?_ _ | with_reducible refine Chg.drew ?_ | with_reducible refine Chg.alloc ?_ _ | with_reducible refine Chg.setCell ?_ _ _ (by simp) | with_reducible refine Chg.setCell ?_ _ _ (by simp; omega)))) HC3.out (fun g hg => by cases hg) (fun g hg => .inr (HOw.out g hg)), fun g' hg' => ?_, by rw [← HM2.out], by rw [List.length_append]; simp only [List.length_nil, List.length_cons]; omega, HKX.out, (fun s hs => HKY.out s (by simp [hs]))⟩
                simp [Value.ownBlock] at hg'; subst hg'
                rcases HG3.out with h | h
                · exact HOw.out _ h
                · simp at h; omega
              case measure => simp [slen]; omega
end Go.Proofs.YtfdhgakalojahaaGreatDoor

namespace Go.Proofs.YtfdhgakalojahaaGreatDoor
open Go Go.RowKit Tree

theorem txt_ne {x y : ByteArray} (h : x ≠ y) : (x.toList == y.toList) = false := by
  rw [beq_eq_false_iff_ne]
  intro e
  rw [ByteArray.toList_eq, ByteArray.toList_eq] at e
  exact h (ByteArray.ext (Array.toList_inj.1 e))
theorem txt_eq (x : ByteArray) : (x.toList == x.toList) = true := by simp

set_option maxRecDepth 100000 in
set_option maxHeartbeats 2000000 in
theorem r10_twice (ks : List ByteArray) (sl : Value) (w : World) (hR : RowC w sl 1 ks.length (strs ks)) (hk : ∀ s ∈ ks, KeyOK s) (hl : ks.length ≤ 4294967296) :
    Calls Tryz.prog 66 #[sl] w fun e w' => e = .returned (.bool (!decide ks.Nodup)) ∧ Chg w w' [] := by
  obtain ⟨a, c, rfl, hac, _⟩ := hR.form
  have HM := Lib.hid fun w' (h : Chg w w' []) => r10_sorted ks.length ks _ w' (Nat.le_refl _) (hR.kept h) hk hl
  have hdup := sorted_dup (l := sortK ks) (srt_pairwise (fun s => s) ks)
  rw [nodup_sortK] at hdup
  have hll := sortK_length ks
  have HD := Lib.hid hdup
  obtain ⟨L, hL⟩ : ∃ L, L = sortK ks := ⟨_, rfl⟩
  have HM' : Hid (∀ w', Chg w w' [] → Calls Tryz.prog 100 #[.slice a ks.length c] w' fun e w'' => (∃ v, e = .returned v ∧ Lst w'' v 9 (strs L) ∧ ∀ g, v.ownBlock = some g → w'.heap.size ≤ g) ∧ Chg w' w'' []) := by rw [hL]; exact HM.out
  rw [← hL] at hll HD
  have hLn : L.length ≤ 4294967296 := by omega
  have HLL : Hid ((strs L).length = L.length) := strs_len L
  clear hR hk hdup hL HM
  go_enter Tryz.func66, Tryz.ntmps66
  go_wp2_with (first | (go_at_call 100; refine (HM'.out _ (Chg.refl _ _)).mono ?_; rintro e w1 ⟨⟨v, rfl, hv, _⟩, hg1⟩; obtain ⟨a1, c1, rfl, _⟩ := hv.form; rw [HLL.out] at hv ⊢; have HV := Lib.hid hv; have HG1 := Lib.hid hg1; clear hv hg1))
  go_loopw [4] (fun v4 wr => ∃ i : Nat, 1 ≤ i ∧ (i ≤ L.length ∨ i = 1) ∧ v4 = .int .i64 i ∧ Chg w1 wr [] ∧ ∀ j s, j + 1 < i → L[j]? = some s → L[j + 1]? ≠ some s) (fun v4 _ => L.length - (intOf v4).toNat)
  case atStart => exact ⟨1, by omega, .inr rfl, rfl, Chg.refl _ _, fun j s h => by omega⟩
  case round =>
    obtain ⟨i, hi1, hi2, rfl, hg, hr⟩ := hrel
    have HG := Lib.hid hg
    have HR := Lib.hid hr
    clear hg hr
    by_cases hlt : i < L.length
    · obtain ⟨i', hi'⟩ : ∃ i', i = i' + 1 := ⟨i - 1, by omega⟩
      obtain ⟨x, hx⟩ : ∃ x, L[i']? = some x := ⟨_, List.getElem?_eq_getElem (by omega)⟩
      obtain ⟨y, hy⟩ : ∃ y, L[i' + 1]? = some y := ⟨_, List.getElem?_eq_getElem (by omega)⟩
      have hvr := HV.out.kept HG.out (by simp)
      obtain ⟨aa, cc, e', ha'⟩ := hvr.form
      injection e' with e1 _ e3
      subst e1; subst e3
      obtain ⟨g, rfl⟩ := ha' (by intro h0; have h1 := HLL.out; rw [h0] at h1; simp at h1; omega)
      have cx : wr.cell? ⟨g, i', none⟩ = some (.string x) := hvr.cell rfl i' _ (by simp [strs, hx])
      have cy : wr.cell? ⟨g, i, none⟩ = some (.string y) := hvr.cell rfl i _ (by simp [strs, hi', hy])
      have z1 : (i : Int) - 1 = (i' : Int) := by omega
      have z2 : (0 : Int) ≤ (i' : Int) := by omega
      have z3 : (i' : Int) < (L.length : Int) := by omega
      have z4 : IntKind.i64.wrap (i' : Int) = (i' : Int) := IntWalk.i64_in _ (by omega)
      have hi'' : i' ≤ 4294967296 := by omega
      rw [show (strs L).length = L.length from HLL.out] at *
      have HI := Lib.hid hi'
      clear ha' hvr
      by_cases hxy : y = x
      · subst hxy
        have hnd : ¬ ks.Nodup := fun h => (HD.out.1 h) i' y hx hy
        have hfin : (!decide ks.Nodup) = true := by simp [hnd]
        have HF := Lib.hid hfin
        clear hnd hfin hx hy hi'
        go_wp2_with fail
        go_quiet (fail)
        go_wp2_with fail
        go_ret
        exact ⟨ret_bool HF.out.symm, HG1.out.trans (by (repeat (first | exact HG.out | with_reducible refine Chg.drewN ?_ _ | with_reducible refine Chg.drew ?_ | with_reducible refine Chg.alloc ?_ _ | with_reducible refine Chg.setCell ?_ _ _ (by simp) | with_reducible refine Chg.setCell ?_ _ _ (by simp; omega))))⟩
      · have hr' : ∀ j s, j + 1 < i' + 1 + 1 → L[j]? = some s → L[j + 1]? ≠ some s := by
          intro j s hj h1 h2
          by_cases e : j = i'
          · subst e; rw [hx] at h1; rw [hy] at h2; injection h1 with h1; injection h2 with h2; exact hxy (h2.trans h1.symm)
          · exact HR.out j s (by omega) h1 h2
        have HR' := Lib.hid hr'

        have hb : (y.toList == x.toList) = false := txt_ne hxy
        clear hr' hx hy hi'
        go_wp2_with fail
        go_quiet (fail)
        go_wp2_with fail
        go_roundw
        case rel => exact ⟨i + 1, by omega, .inl (by omega), by go_num, by (repeat (first | exact HG.out | with_reducible refine Chg.drewN ?_ _ | with_reducible refine Chg.drew ?_ | with_reducible refine Chg.alloc ?_ _ | with_reducible refine Chg.setCell ?_ _ _ (by simp) | with_reducible refine Chg.setCell ?_ _ _ (by simp; omega))), by rw [HI.out]; exact HR'.out⟩
        case measure => simp [intOf]; omega
    · have hnd : ks.Nodup := HD.out.2 fun i s h1 h2 => by
        have hj := (List.getElem?_eq_some_iff.1 h2).1
        exact HR.out i s (by omega) h1 h2
      have hfin : (!decide ks.Nodup) = false := by simp [hnd]
      have HF := Lib.hid hfin
      clear hnd hfin
      go_wp2_with fail
      go_ret
      exact ⟨ret_bool HF.out.symm, HG1.out.trans HG.out⟩
end Go.Proofs.YtfdhgakalojahaaGreatDoor

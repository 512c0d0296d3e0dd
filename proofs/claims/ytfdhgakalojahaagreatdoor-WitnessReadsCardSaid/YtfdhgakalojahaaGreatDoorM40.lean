/- WALKS: the program's layer 10: the tree that steps make. -/
import Derived.BigQuiet
import Derived.Test.YtfdhgakalojahaaGreatDoorM39
import Derived.Test.YtfdhgakalojahaaGreatDoorM29
set_option linter.unusedSimpArgs false
set_option linter.unusedVariables false
set_option linter.unnecessarySimpa false
set_option linter.unusedSectionVars false
namespace Go.Proofs.YtfdhgakalojahaaGreatDoor
open Go Go.RowKit Tree

/-- what node.Build tells -/
def NBuildPost (l : List StepI) (w : World) (e : Ending) (w' : World) : Prop :=
  (match (if l.length ≤ 65536 then buildT l else none) with
    | some t => ∃ (F : Nat → Prop) (tb : Nat), e = .returned (.tuple #[.pointer (some ⟨tb, 0, none⟩), .nilIface]) ∧ TreeAt w' F tb t ∧ (∀ b, F b → b < w'.heap.size) ∧ (szT t).within = true
    | none => ∃ (ti : TypeId) (x : Value), e = .returned (.tuple #[.pointer none, .iface ti x])) ∧ Chg w w' []

theorem StepsR.item {w : World} {l : List StepI} {xs : List Value} {b o n c : Nat} (hR : RowC w (.slice (some ⟨b, o, none⟩) n c) 6 l.length xs) (hn : 0 < l.length) (hS : StepsR w l xs) {i : Nat} {s : StepI} (hs : l[i]? = some s) :
    ∃ sk, RowC w sk 1 s.keys.length (strs s.keys) ∧ ∀ j v, (stepI s sk)[j]? = some v → w.cell? ⟨b, o + i * 6 + j, none⟩ = some v := by
  obtain ⟨sk, h1, h2⟩ := hS.get i s hs
  obtain ⟨b', o', e, hc⟩ := hR.base hn (by decide)
  injection e with e
  injection e with e1 e2
  subst e1; subst e2
  exact ⟨sk, h1, fun j v hv => by rw [Nat.add_assoc]; exact hc _ v (h2 j v hv)⟩

theorem NDoPost.eqYes {F : Nat → Prop} {T : TypeId} {b : Nat} {sv : Value} {l : List Tr} {s : StepI} (h : fitS s l = true) : NDoPost F T b sv l s = DoPost F T b sv (doT l s) := by
  funext w; exact NDoPost.yes h
theorem NDoPost.eqNo {F : Nat → Prop} {T : TypeId} {b : Nat} {sv : Value} {l : List Tr} {s : StepI} (h : fitS s l = false) : NDoPost F T b sv l s = NoPost := by
  funext w; exact NDoPost.no h

set_option maxRecDepth 100000 in
set_option maxHeartbeats 8000000 in
theorem node_Build (l : List StepI) (sl : Value) (xs : List Value) (w : World) (hR : RowC w sl 6 l.length xs) (hS : StepsR w l xs) (hb : ∀ s ∈ l, StepB s) (hl : l.length ≤ 4294967296) :
    Calls Tryz.prog 13 #[sl] w (NBuildPost l w) := by
  obtain ⟨a, c, rfl, hac, _⟩ := hR.form
  have hta : ∀ (k : Int) (w : World), (Instr.typeAssert (.iface 34 (.int .i64 k)) 29 34 false).run Tryz.prog w = .ok (.int .i64 k) w := fun _ _ => by kernel_rfl
  have HR := Lib.hid hR
  have HS := Lib.hid hS
  have HB := Lib.hid hb
  clear hR hS hb
  by_cases hmax : l.length ≤ 65536
  · obtain ⟨w0, hw0⟩ : ∃ x, x = w.alloc (.cells #[.slice none 0 0] 97) := ⟨_, rfl⟩
    have HG : Hid (Chg w w0 []) := by rw [hw0]; exact Lib.hid ((Chg.refl w []).alloc _)
    have HM0 : Hid (MkAt w0 (fun k => k < w.heap.size) 97 w.heap.size (.slice none 0 0) [] []) := by
      rw [hw0]
      exact Lib.hid ⟨Blk.new w _ _, Lst.nil _ _, by simp [ItemsAt], by simp, (fun g hg => by cases hg), (fun k hk => by simp; omega)⟩
    have hz0 : w0.heap.size = w.heap.size + 1 := by rw [hw0]; simp
    have HZ := Lib.hid hz0
    have HW := Lib.hid hw0
    clear hw0 hz0
    go_enter Tryz.func13, Tryz.ntmps13
    go_wp2_with fail
    rw [← HW.out]
    go_loopw [14] (fun v14 wr => ∃ (i : Nat) (row : List Tr) (F : Nat → Prop) (sv : Value) (vs : List Value), i ≤ l.length ∧ v14 = .int .i64 i ∧ runT [] (l.take i) = some row ∧ MkAt wr F 97 w.heap.size sv row vs ∧ (∀ k, k < w.heap.size → F k) ∧ Chg w wr []) (fun v14 _ => l.length - (intOf v14).toNat)
    case atStart => exact ⟨0, [], _, _, [], by omega, rfl, by simp [runT], HM0.out, fun k hk => hk, HG.out⟩
    case round =>
      obtain ⟨wa, rfl⟩ : ∃ x, x = wr := ⟨_, rfl⟩
      obtain ⟨i, row, F, sv, vs, hi, rfl, hrun, hM, hold, hg⟩ := hrel
      have hfa := runT_facts (row := []) (fun _ h => by cases h) hrun
      have hrl : row.length ≤ 65536 := by have := hfa.2; rw [List.length_take] at this; simp at this; omega
      have HGa := Lib.hid hg
      have HRun := Lib.hid hrun
      have HM := Lib.hid hM
      have HOld := Lib.hid hold
      have HFit := Lib.hid hfa.1
      obtain ⟨x1, x2, x10⟩ := Blk.cells1 hM.blk
      have hszw : w.heap.size ≤ wa.heap.size := hg.size
      clear hrun hM hold hg hfa
      by_cases hlt : i < l.length
      · obtain ⟨s, hs⟩ : ∃ s, l[i]? = some s := ⟨_, List.getElem?_eq_getElem hlt⟩
        have hsm : s ∈ l := List.mem_of_getElem? hs
        obtain ⟨b, o, rfl, _⟩ := HR.out.base (by omega) (by decide)
        obtain ⟨sk, hsk, hsc⟩ := StepsR.item HR.out (by omega) HS.out hs
        obtain ⟨ka, kc, rfl, _⟩ := hsk.form
        have hcc : ∀ j v, (stepI s (.slice ka s.keys.length kc))[j]? = some v → wa.cell? ⟨b, o + i * 6 + j, none⟩ = some v := fun j v hv => HGa.out.keeps (hsc j v hv)
        have c0 := hcc 0 _ rfl
        have c1 := hcc 1 _ rfl
        have c2 := hcc 2 _ rfl
        have c3 := hcc 3 _ rfl
        have c4 := hcc 4 _ rfl
        have c5 := hcc 5 _ rfl
        rw [Nat.add_zero] at c0
        have HD : Hid (∀ wx, Chg wa wx [] → Calls Tryz.prog 41 #[.pointer (some ⟨w.heap.size, 0, none⟩), .agg #[.int .i64 s.sort, .bool s.flag, .int .u64 s.bits, .string s.text, .int .i64 s.count, .slice ka s.keys.length kc]] wx (NDoPost F 97 w.heap.size sv row s wx)) := Lib.hid fun wx h =>
          node_do F _ _ sv row vs s _ wx (HM.out.kept h) (hsk.kept (HGa.out.trans h)) (HB.out s hsm) HFit.out hrl
        by_cases hf : fitS s row = true
        · have hnx := runT_succ HRun.out hs
          rw [if_pos hf] at hnx
          have HNX := Lib.hid hnx
          rw [NDoPost.eqYes hf] at HD
          clear hnx hf hs hsm hsk hsc hcc
          go_wp2_with (first | (go_at_call 41; refine (HD.out _ (by (repeat (first | exact Chg.refl _ _ | with_reducible refine Chg.drewN ?_ _ | with_reducible refine Chg.drew ?_ | with_reducible refine Chg.alloc ?_ _ | with_reducible refine Chg.setCell ?_ _ _ (by simp) | with_reducible refine Chg.setCell ?_ _ _ (by simp; omega))))).mono ?_; rintro e w3 ⟨rfl, F3, sv3, vs3, h31, h32, h33, h34⟩; have H31 := Lib.hid h31; have H33 := Lib.hid h33; have H34 := Lib.hid h34; clear h31 h32 h33 h34))
          go_roundw
          case rel =>
            refine ⟨i + 1, _, F3, sv3, vs3, by omega, by go_num, HNX.out, H33.out, fun k hk => H31.out k (HOld.out k hk), ?_⟩
            refine Chg.step (cs := w.heap.size :: sv.ownBlock.toList) (b := _) ?_ H34.out fun k hk hlt => ?_
            · (repeat (first | exact HGa.out | with_reducible refine Chg.drewN ?_ _ | with_reducible refine Chg.drew ?_ | with_reducible refine Chg.alloc ?_ _ | with_reducible refine Chg.setCell ?_ _ _ (by simp) | with_reducible refine Chg.setCell ?_ _ _ (by simp; omega)))
            · exfalso
              simp only [List.mem_cons, Option.mem_toList] at hk
              rcases hk with rfl | hk
              · omega
              · exact (HM.out.apart' k hk).1 (HOld.out k hlt)
          case measure => simp [intOf]; omega
        · have hf0 : fitS s row = false := by simpa using hf
          have hnone := runT_none HRun.out hs hf0
          have hbt : (if l.length ≤ 65536 then buildT l else none) = none := by rw [if_pos hmax]; unfold buildT; rw [hnone]
          have HBT := Lib.hid hbt
          rw [NDoPost.eqNo hf0] at HD
          clear hnone hbt hf hf0 hs hsm hsk hsc hcc
          go_wp2_with (first | (go_at_call 41; refine (HD.out _ (by (repeat (first | exact Chg.refl _ _ | with_reducible refine Chg.drewN ?_ _ | with_reducible refine Chg.drew ?_ | with_reducible refine Chg.alloc ?_ _ | with_reducible refine Chg.setCell ?_ _ _ (by simp) | with_reducible refine Chg.setCell ?_ _ _ (by simp; omega))))).mono ?_; rintro e w3 ⟨⟨n3, rfl⟩, h34⟩; have H34 := Lib.hid h34; clear h34))
          go_quiet (fail)
          go_wp2_with fail
          go_ret2
          unfold NBuildPost
          rw [HBT.out]
          exact ⟨⟨_, _, rfl⟩, Chg.drewN (Chg.trans (b := _) (by (repeat (first | exact HGa.out | with_reducible refine Chg.drewN ?_ _ | with_reducible refine Chg.drew ?_ | with_reducible refine Chg.alloc ?_ _ | with_reducible refine Chg.setCell ?_ _ _ (by simp) | with_reducible refine Chg.setCell ?_ _ _ (by simp; omega)))) H34.out) _⟩
      · obtain rfl : i = l.length := by omega
        have hrun := HRun.out
        rw [List.take_of_length_le (Nat.le_refl _)] at hrun
        have hvl := HM.out.items.length
        obtain ⟨sa, sc, rfl, hsa⟩ := HM.out.lst.form
        by_cases h1 : row.length = 1
        · obtain ⟨t, rfl⟩ : ∃ t, row = [t] := by
            match row, h1 with
            | [t], _ => exact ⟨t, rfl⟩
          have hbt : (if l.length ≤ 65536 then buildT l else none) = some t := by rw [if_pos hmax]; unfold buildT; rw [hrun]
          have HBT := Lib.hid hbt
          have hi' := HM.out.items
          simp only [ItemsAt] at hi'
          obtain ⟨v, r, rfl, hit, rfl⟩ := hi'
          obtain ⟨g, rfl⟩ := hsa (by simp)
          obtain ⟨ti, x, rfl⟩ := hit.iface
          have y1 : wa.cell? ⟨g, 0, none⟩ = some (.iface ti x) := HM.out.lst.cell rfl 0 _ rfl
          have HIT := Lib.hid hit
          have HFT : Hid ((szT t).within = true) := HFit.out t (by simp)
          simp only [List.length_cons, List.length_nil] at hvl hrl x10 ⊢
          clear hit hsa h1 hrun hbt
          go_wp2_with fail
          go_ret2
          unfold NBuildPost
          rw [HBT.out]
          exact ⟨⟨F, wa.heap.size, by first | rfl | simp, ⟨.iface ti x, cell_new rfl _ _, ItemAt.kept (((Chg.refl wa []).alloc _).keepsF HM.out.lt (by simp)) (fun _ h => h) _ _ HIT.out, by simp⟩, fun b hb => by have := HM.out.lt b hb; simp; omega, HFT.out⟩, HGa.out.alloc _⟩
        · have hbt : (if l.length ≤ 65536 then buildT l else none) = none := by
            rw [if_pos hmax]; unfold buildT; rw [hrun]
            match row, h1 with
            | [], _ => rfl
            | [t], h => exact absurd rfl h
            | _ :: _ :: _, _ => rfl
          have HBT := Lib.hid hbt
          have h1' : ((vs.length : Int) == 1) = false := by rw [beq_eq_false_iff_ne]; omega
          clear hbt hrun h1 hsa
          go_wp2_with fail
          go_ret2
          unfold NBuildPost
          rw [HBT.out]
          exact ⟨⟨_, _, rfl⟩, HGa.out⟩
  · have hbt : (if l.length ≤ 65536 then buildT l else none) = none := if_neg hmax
    have HBT := Lib.hid hbt
    have hgt : (65536 : Int) < (l.length : Int) := by omega
    clear hbt hmax
    go_enter Tryz.func13, Tryz.ntmps13
    go_wp2_with fail
    go_ret2
    unfold NBuildPost
    rw [HBT.out]
    exact ⟨⟨_, _, rfl⟩, Chg.refl _ _⟩
end Go.Proofs.YtfdhgakalojahaaGreatDoor

/- WALKS: the program's layer 10: group. -/
import Derived.Deep.RegionHeld3
import Derived.Deep.RegionLaw
import Derived.Test.YtfdhgakalojahaaGreatDoorM14
set_option linter.unusedSimpArgs false
set_option linter.unusedVariables false
set_option linter.unnecessarySimpa false
set_option linter.unusedSectionVars false
namespace Go.Proofs.YtfdhgakalojahaaGreatDoor
open Go Go.RowKit Tree

set_option maxRecDepth 100000 in
set_option maxHeartbeats 1000000 in
theorem node_group_no (F : Nat → Prop) (t : Tr) (v : Value) (b : Nat) (n : Int) (w : World) (ht : ItemAt w F t v) (hw : (szT t).within = false) :
    Calls Tryz.prog 77 #[.pointer (some ⟨b, 0, none⟩), .int .i64 n, v] w fun e w' => e = .panicked [{ v := .iface 34 (.int .i64 3), recovered := false }] ∧ Chg w w' [] := by
  obtain ⟨ti, x, rfl⟩ := ht.iface
  obtain ⟨f, args, hm, hc⟩ := sized_any t _ ht
  have HM := Lib.hid hm
  have HW := Lib.hid hw
  clear hm hw ht
  go_enter Tryz.func77, Tryz.ntmps77
  go_wp2_with (first
    | (refine wpList_invoke rfl _ _ _ rfl _ rfl f args HM.out _ hc ?_; rintro e w1 ⟨rfl, hg1⟩; refine ⟨_, rfl, ?_⟩; unfold szV)
    | (go_at_call 103; refine (node_within _ _ _ _).mono ?_; rintro e w2 ⟨rfl, hg2⟩; rw [show Sz.within ⟨(szT t).nodes, (szT t).bytes, (szT t).depth⟩ = false from HW.out])
    | (go_at_call 70; refine (node_refuse_no _ _).mono ?_; rintro e w3 ⟨rfl, rfl⟩))
  exact ⟨rfl, rfl, hg1.trans hg2⟩

set_option maxRecDepth 100000 in
set_option maxHeartbeats 2000000 in
theorem node_group_ok (F : Nat → Prop) (T : TypeId) (t : Tr) (v : Value) (b : Nat) (sv : Value) (l : List Tr) (vs : List Value) (n : Nat) (w : World) (hM : MkAt w F T b sv l vs) (ht : ItemAt w F t v) (hw : (szT t).within = true)
    (hn : n ≤ l.length) (hl : l.length ≤ 2147483648) :
    Calls Tryz.prog 77 #[.pointer (some ⟨b, 0, none⟩), .int .i64 n, v] w fun e w' => e = .returned (.tuple #[]) ∧ MkPost F T b sv (l.take (l.length - n) ++ [t]) w w' := by
  obtain ⟨ti, x, rfl⟩ := ht.iface
  obtain ⟨f, args, hm, hc⟩ := sized_any t _ ht
  obtain ⟨a, cap, rfl, ha⟩ := hM.lst.form
  have hvl := hM.items.length
  have hcap := hM.lst.capLe.2
  rw [← hvl] at hn hl
  have HVL := Lib.hid hvl
  have HP := Lib.hid (hM.lst.pop (vs.length - n) (by omega))
  have HPL : Hid ((vs.take (vs.length - n)).length = vs.length - n) := by unfold Hid; rw [List.length_take]; omega
  have HM := Lib.hid hm
  have HW := Lib.hid hw
  have HT := Lib.hid ht
  have HMk := Lib.hid hM
  have hb := hM.blk.lt
  clear hm hw ht hM hvl ha
  go_enter Tryz.func77, Tryz.ntmps77
  go_wp2_with (first
    | (refine wpList_invoke rfl _ _ _ rfl _ rfl f args HM.out _ hc ?_; rintro e w1 ⟨rfl, hg1⟩; refine ⟨_, rfl, ?_⟩; unfold szV)
    | (go_at_call 103; refine (node_within _ _ _ _).mono ?_; rintro e w2 ⟨rfl, hg2⟩; rw [show Sz.within ⟨(szT t).nodes, (szT t).bytes, (szT t).depth⟩ = true from HW.out])
    | (go_at_call 70; refine (node_refuse_ok _ _).mono ?_; rintro e w3 ⟨rfl, rfl⟩))
  have HB := Lib.hid (HMk.out.blk.kept (hg1.trans hg2) (by simp))
  have c0 : w2.cell? ⟨b, 0, none⟩ = some (.slice a vs.length cap) := HB.out.cell 0
  have f0 : ∀ j, w2.frozen? ⟨b, j, none⟩ = false := fun j => HB.out.frozen j
  have lb := HB.out.lt
  have HL2 := Lib.hid (((HP.out.kept (hg1.trans hg2) (by simp)).kept ((Chg.refl w2 []).alloc (.cells #[.iface ti x] 72)) (by simp)))
  have z1 : IntKind.i64.wrap ((vs.length : Int) - n) = (vs.length : Int) - n := IntWalk.i64_in _ (by omega)
  have z2 : (0 : Int) ≤ (vs.length : Int) - n := by omega
  have z3 : (vs.length : Int) - n ≤ (cap : Int) := by omega
  have z4 : ((vs.length : Int) - n).toNat = vs.length - n := by omega
  have q1 : (vs.length - n + 1) * 16 ≤ 140737488355328 := by omega
  have q2 : vs.length - n ≤ 140737488355328 := by omega
  have hno : b ∉ (Value.slice a (vs.length - n) cap).ownBlock.toList := by have := HMk.out.notOwn; cases a <;> simpa [Value.ownBlock] using this
  go_region_law (first | (refine step_append1 rfl _ _ _ rfl 72 .nilIface 16 Tryz.underlying95 info_item rfl (.slice a (vs.length - n) cap) (vs.take (vs.length - n)) (by rfl) (by exact HL2.out) w2.heap.size (.iface ti x) (by rfl) (by simp) rfl (by rw [HPL.out]; exact q1) (by rw [HPL.out]; exact q2) ?_; rw [HPL.out]; intro g cap' w3 hL hC hG; have HB3 := Lib.hid ((HB.out.alloc (.cells #[.iface ti x] 72)).drew.kept hC hno); have c3 : w3.cell? ⟨b, 0, none⟩ = some (.slice a vs.length cap) := HB3.out.cell 0; have f3 : ∀ j, w3.frozen? ⟨b, j, none⟩ = false := (fun j => HB3.out.frozen j); have lb3 := HB3.out.lt))
  all_goals go_end0
  all_goals
    have hsv : (Value.slice a vs.length cap).ownBlock = (Value.slice a (vs.length - n) cap).ownBlock := by cases a <;> rfl
    refine ⟨rfl, HMk.out.push (m := l.take (l.length - n)) (us := vs.take (vs.length - n)) ?_ HT.out (((hg1.trans hg2).alloc (.cells #[.iface ti x] 72)).drew) hL (by rw [hsv]; exact hC) ?_ (HB3.out.set 0 _) ((Chg.refl _ _).setCell _ _ (by simp))⟩
    · rw [← HVL.out]; exact HMk.out.items.take _
    · rw [hsv]
      rcases hG with hG | hG
      · exact .inl hG
      · have := (hg1.trans hg2).size; simp at hG; exact .inr (by omega)
end Go.Proofs.YtfdhgakalojahaaGreatDoor

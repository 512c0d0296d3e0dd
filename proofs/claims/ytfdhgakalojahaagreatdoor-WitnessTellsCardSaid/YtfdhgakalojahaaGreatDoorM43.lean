/- WALKS: a head as a value, by the program. -/
import Derived.Test.YtfdhgakalojahaaGreatDoorM28
import Derived.Test.YtfdhgakalojahaaGreatDoorM31
import Derived.Test.YtfdhgakalojahaaGreatDoorM37
set_option linter.unusedSimpArgs false
set_option linter.unusedVariables false
set_option linter.unnecessarySimpa false
set_option linter.unusedSectionVars false
namespace Go.Proofs.YtfdhgakalojahaaGreatDoor
open Go Go.RowKit Tree

theorem base_DigestU (rb : List UInt8) (w : World) (hr : rb.length = 32) :
    Calls Tryz.prog 19 #[.agg (rb.map byV).toArray] w fun e w' => e = .returned (.string (hexS (dgB rb))) ∧ Chg w w' [] := by
  have h := base_Digest (rb.map fun b => (b.toNat : Int)) w (by rw [List.length_map, hr])
  rw [List.map_map, dgB_nums] at h
  exact h

def TellNo (w : World) (e : Ending) (w' : World) : Prop := e = .returned (.tuple #[.pointer none, .iface 34 (.int .i64 2)]) ∧ Chg w w' []

set_option maxRecDepth 100000 in
set_option maxHeartbeats 4000000 in
theorem wit_Tell_no (o : ByteArray) (n t : Int) (rb : List UInt8) (hr : rb.length = 32) (w : World) (hs : o.size ≤ 2147483648) (hl : Laid w) (hm : mayB (originB o) n t (rb == noD) = false) :
    Calls Tryz.prog 6 #[.agg (hdL o n rb t).toArray] w (TellNo w) := by
  have hcb := hdL_cells o n rb t
  have HB0 := Lib.hid (Blk.new w (hdL o n rb t) 25)
  have HG0 : Hid (Chg w (w.alloc (.cells (hdL o n rb t).toArray 25)) []) := Lib.hid ((Chg.refl w []).alloc _)
  have HM : Hid (∀ w, Laid w → Calls Tryz.prog 16 #[.agg (hdL o n rb t).toArray] w fun e w' => e = .returned (.bool false) ∧ Chg w w' []) := by
    intro w h; rw [← hm]; exact witness_may o n t rb hr w hs h
  have HL := Lib.hid hl
  have hi : (Tryz.prog.info? 25).map (·.size) = some (hdL o n rb t).length := by rw [hdL_length, hr]; exact info_hd
  have HI := Lib.hid hi
  clear hm hl hi
  go_enter Tryz.func6, Tryz.ntmps6
  go_wp2_with (first
    | (refine wpList_load_blk rfl _ _ rfl w.heap.size rfl 25 (hdL o n rb t) HB0.out _ Tryz.underlying25 rfl HI.out ?_)
    | (go_at_call 16; refine (HM.out _ (Laid.kept _ _ HL.out HG0.out)).mono ?_; rintro e w1 ⟨rfl, hg1⟩))
  go_ret2
  exact ⟨rfl, HG0.out.trans hg1⟩

/-- a maker that was laid behind w1, and what it holds -/
structure MS (w1 w' : World) (b : Nat) (l : List Tr) : Prop where
  ex : ∃ F sv vs, MkAt w' F 111 b sv l vs ∧ (∀ k, k < w1.heap.size → F k)
  chg : Chg w1 w' []
  le : w1.heap.size ≤ b

theorem MS.new (w : World) : MS w (w.alloc (.cells #[.slice none 0 0] 111)) w.heap.size [] :=
  ⟨⟨fun k => k < w.heap.size, .slice none 0 0, [], ⟨Blk.new w [.slice none 0 0] _, Lst.nil _ _, rfl, (by simp), (fun g hg => by cases hg), (fun k hk => by simp; omega)⟩, fun _ h => h⟩, (Chg.refl w []).alloc _, Nat.le_refl _⟩

theorem MS.kept {w1 w' w'' : World} {b : Nat} {l : List Tr} (h : MS w1 w' b l) (hg : Chg w' w'' []) : MS w1 w'' b l := by
  obtain ⟨⟨F, sv, vs, hM, hF⟩, h2, h3⟩ := h
  exact ⟨⟨F, sv, vs, ⟨hM.blk.kept hg (by simp), hM.lst.kept hg (by simp), ItemsAt.kept (hg.keepsF hM.lt (by simp)) (fun _ h => h) _ _ hM.items, hM.apart, hM.apart', fun k hk => Nat.lt_of_lt_of_le (hM.lt k hk) hg.size⟩, hF⟩, h2.trans hg, h3⟩

theorem MS.next {w1 w' : World} {b : Nat} {l : List Tr} (h : MS w1 w' b l) (l' : List Tr) (f : FuncId) (args : Array Value)
    (hc : ∀ F sv vs, MkAt w' F 111 b sv l vs → Calls Tryz.prog f args w' (DoPost F 111 b sv l' w')) :
    Calls Tryz.prog f args w' fun e w'' => e = .returned .nilIface ∧ MS w1 w'' b l' := by
  obtain ⟨⟨F, sv, vs, hM, hF⟩, hg, hb⟩ := h
  refine (hc F sv vs hM).mono ?_
  rintro e w'' ⟨rfl, F', sv', vs', h1, h2, h3, h4⟩
  refine ⟨rfl, ⟨F', sv', vs', h3, fun k hk => h1 k (hF k hk)⟩, hg.step h4 ?_, hb⟩
  intro i hi hl
  exfalso
  simp only [List.mem_cons, Option.mem_toList] at hi
  rcases hi with rfl | hi
  · omega
  · exact (hM.apart' i hi).1 (hF i hl)

theorem MS.text {w1 w' : World} {b : Nat} {l : List Tr} (h : MS w1 w' b l) (hl : l.length < 65536) (s : ByteArray) (hr : Utf.rightB s = true) (hw : (szT (.text s)).within = true) (hs : s.size ≤ 2147483648) :
    Calls Tryz.prog 18 #[.pointer (some ⟨b, 0, none⟩), .string s] w' fun e w'' => e = .returned .nilIface ∧ MS w1 w'' b (l ++ [.text s]) :=
  h.next _ _ _ fun F sv vs hM => maker_Text F _ b sv l vs w' hM hl s hr hw hs

theorem MS.num {w1 w' : World} {b : Nat} {l : List Tr} (h : MS w1 w' b l) (hl : l.length < 65536) (n : Nat) (hn : n < 9007199254740992) :
    Calls Tryz.prog 20 #[.pointer (some ⟨b, 0, none⟩), .float .f64 (Fl.wd n)] w' fun e w'' => e = .returned .nilIface ∧ MS w1 w'' b (l ++ [.num (Fl.wd n)]) := by
  refine h.next _ _ _ fun F sv vs hM => ?_
  have := maker_Number F _ b sv l vs w' hM hl (Fl.wd n) (Nat.lt_trans (Fl.wd_lt hn) (by decide)) (Fl.fin_wd hn)
  rw [normB_wd hn] at this
  exact this

theorem MS.obj4 {w1 w' : World} {b : Nat} {x0 x1 x2 x3 : Tr} (h : MS w1 w' b [x0, x1, x2, x3]) (keys : Value) (G : Nat → Prop) (hK : RowAt w' G keys (strs keys4)) (hG : ∀ k, G k → k < w'.heap.size) (hF : Fits [x0, x1, x2, x3])
    (hw : (szT (.obj keys4 [x0, x1, x2, x3])).within = true) :
    Calls Tryz.prog 21 #[.pointer (some ⟨b, 0, none⟩), keys] w' fun e w'' => e = .returned .nilIface ∧ MS w1 w'' b [.obj keys4 [x0, x1, x2, x3]] := by
  refine h.next _ _ _ fun F sv vs hM => ?_
  have h0 : [x0, x1, x2, x3].length - keys4.length = 0 := rfl
  have := maker_Object F _ b sv _ vs keys w' hM G keys4 hK hG keys4_right keys4_small keys4_nodup (by decide) hF (by show 4 ≤ 4; omega) (by simp) (by rw [h0, List.drop_zero, objT_keys4]; exact hw)
  rw [h0, List.drop_zero, List.take_zero, objT_keys4] at this
  exact this

def TellYes (t : Tr) (w : World) (e : Ending) (w' : World) : Prop :=
  ∃ tb F, e = .returned (.tuple #[.pointer (some ⟨tb, 0, none⟩), .nilIface]) ∧ Chg w w' [] ∧ TreeAt w' F tb t ∧ (∀ k, F k → k < w'.heap.size) ∧ (∀ k, k < w.heap.size → F k)

set_option maxRecDepth 100000 in
set_option maxHeartbeats 8000000 in
theorem wit_Tell (o : ByteArray) (n t : Nat) (rb : List UInt8) (hr : rb.length = 32) (w : World) (hl : Laid w) (hm : mayB (originB o) n t (rb == noD) = true) :
    Calls Tryz.prog 6 #[.agg (hdL o n rb t).toArray] w (TellYes (headT o (hexS (dgB rb)) n t) w) := by
  have hmm : originB o = true ∧ n < 9007199254740992 ∧ t < 9007199254740992 := by
    unfold mayB at hm
    simp only [Bool.and_eq_true, decide_eq_true_eq] at hm
    exact ⟨hm.1.1.1.1.1, by omega, by omega⟩
  obtain ⟨ho, hn, ht⟩ := hmm
  have hor : o.size ≤ 256 ∧ Utf.rightB o = true := by
    unfold originB at ho
    simp only [Bool.and_eq_true, decide_eq_true_eq] at ho
    exact ⟨ho.1.2, ho.2⟩
  obtain ⟨hos, hor⟩ := hor
  have HOR := Lib.hid hor
  have hcb := hdL_cells o n rb t
  obtain ⟨w0, hw0⟩ : ∃ x, x = w.alloc (.cells (hdL o n rb t).toArray 25) := ⟨_, rfl⟩
  have HB0 : Hid (Blk w0 w.heap.size (hdL o n rb t) 25) := by rw [hw0]; exact Lib.hid (Blk.new w _ _)
  have HG0 : Hid (Chg w w0 []) := by rw [hw0]; exact Lib.hid ((Chg.refl w []).alloc _)
  have HW := Lib.hid hw0
  have HM : Hid (∀ w, Laid w → Calls Tryz.prog 16 #[.agg (hdL o n rb t).toArray] w fun e w' => e = .returned (.bool true) ∧ Chg w w' []) := by
    intro w h; rw [← hm]; exact witness_may o n t rb hr w (by omega) h
  have HL := Lib.hid hl
  have hi : (Tryz.prog.info? 25).map (·.size) = some (hdL o n rb t).length := by rw [hdL_length, hr]; exact info_hd
  have HI := Lib.hid hi
  obtain ⟨xn, hxn⟩ : ∃ x, x = Fl.wd n := ⟨_, rfl⟩
  obtain ⟨xt, hxt⟩ : ∃ x, x = Fl.wd t := ⟨_, rfl⟩
  have hfn : floatOfInt .f64 (n : Int) = xn := by rw [hxn]; exact floatOfInt_nat n
  have hft : floatOfInt .f64 (t : Int) = xt := by rw [hxt]; exact floatOfInt_nat t
  have HXN := Lib.hid hxn
  have HXT := Lib.hid hxt
  have HWI : Hid ((szT (.text o)).within = true) := Lib.hid (by unfold szT Sz.within; simp; omega)
  clear hm hl hi hw0 hor ho hxn hxt
  go_enter Tryz.func6, Tryz.ntmps6
  go_upto_region 1 with (fail)
  rw [← HW.out]
  go_wp2_with (first
    | (refine wpList_load_blk rfl _ _ rfl w.heap.size rfl 25 (hdL o n rb t) HB0.out _ Tryz.underlying25 rfl HI.out ?_)
    | (go_at_call 16; refine (HM.out _ (Laid.kept _ _ HL.out HG0.out)).mono ?_; rintro e w1 ⟨rfl, hg1⟩; have HB1 := Lib.hid (HB0.out.kept hg1 (by simp)); have HG1 := Lib.hid (HG0.out.trans hg1); clear hg1)
    | (go_at_call 17; refine (node_New _).mono ?_; rintro e w2 ⟨rfl, hw2⟩; have HM2 : Hid (MS w1 w2 w1.heap.size []) := (by rw [← hw2]; exact Lib.hid (MS.new w1)); clear hw2; obtain ⟨b, hb⟩ : ∃ b, b = w1.heap.size := ⟨_, rfl⟩; rw [← hb] at HM2 ⊢; have HBB := Lib.hid hb; clear hb; obtain ⟨c0, _, _, _⟩ := (HB1.out.kept HM2.out.chg (by simp)).head hr))
  refine (HM2.out.text (by simp) o HOR.out HWI.out (by omega)).mono ?_
  rintro e w3 ⟨rfl, hM3⟩
  have HM3 := Lib.hid hM3
  have HRG := Lib.hid ((HB1.out.kept HM3.out.chg (by simp)).head hr).2.2.2
  clear hM3 c0 HM2
  have hu := Tryz.underlying23
  have hiR : (Tryz.prog.info? 23).map (·.size) = some (rb.map byV).length := by rw [List.length_map, hr]; exact info_dg
  have HIR := Lib.hid hiR
  clear hiR
  go_wp2_with (first
    | (refine wpList_load_mid rfl _ _ rfl w.heap.size 2 rfl (rb.map byV) _ HRG.out hu rfl HIR.out ?_))
  refine (base_DigestU rb _ hr).mono ?_
  rintro e w4 ⟨rfl, hg4⟩
  have HM4 : Hid (MS w1 w4 b [.text o]) := Lib.hid (HM3.out.kept hg4)
  clear hg4 HM3 HRG
  go_wp2_with fail
  refine (HM4.out.text (by simp) (hexS (dgB rb)) (hexS_right _) (by unfold szT Sz.within; simp [hexS_size, dgB_size, hr]) (by rw [hexS_size, dgB_size, hr]; omega)).mono ?_
  rintro e w5 ⟨rfl, hM5⟩
  have HM5 := Lib.hid hM5
  obtain ⟨_, c1, _, _⟩ := (HB1.out.kept HM5.out.chg (by simp)).head hr
  clear hM5 HM4
  go_wp2_with fail
  rw [HXN.out]
  refine (HM5.out.num (by simp) n hn).mono ?_
  rintro e w6 ⟨rfl, hM6⟩
  have HM6 := Lib.hid hM6
  obtain ⟨_, _, c34, _⟩ := (HB1.out.kept HM6.out.chg (by simp)).head hr
  clear hM6 HM5 c1
  go_wp2_with fail
  rw [HXT.out]
  refine (HM6.out.num (by simp) t ht).mono ?_
  rintro e w7 ⟨rfl, hM7⟩
  have HM7 := Lib.hid hM7
  clear hM7 HM6 c34
  go_wp2_with fail
  have HM8 : Hid (MS w1 (w7.alloc (.cells (strs keys4).toArray 9)) b [.text o, .text (hexS (dgB rb)), .num (Fl.wd n), .num (Fl.wd t)]) := Lib.hid (HM7.out.kept ((Chg.refl w7 []).alloc _))
  have HK8 : Hid (RowAt (w7.alloc (.cells (strs keys4).toArray 9)) (fun k => k = w7.heap.size) (.slice (some ⟨w7.heap.size, 0, none⟩) 4 4) (strs keys4)) :=
    Lib.hid (.inr ⟨w7.heap.size, 0, 4, rfl, rfl, fun i v hv => by rw [Nat.zero_add, (Blk.new w7 (strs keys4) 9).cell]; exact hv⟩)
  have HFT : Hid (Fits [.text o, .text (hexS (dgB rb)), .num (Fl.wd n), .num (Fl.wd t)]) := Lib.hid (by
    intro x hx
    simp only [List.mem_cons, List.not_mem_nil, or_false] at hx
    rcases hx with rfl | rfl | rfl | rfl
    · exact HWI.out
    · unfold szT Sz.within; simp [hexS_size, dgB_size, hr]
    · rfl
    · rfl)
  have HWT : Hid ((szT (.obj keys4 [.text o, .text (hexS (dgB rb)), .num (Fl.wd n), .num (Fl.wd t)])).within = true) := Lib.hid (by
    have := headT_sz o (hexS (dgB rb)) n t
    unfold headT at this
    rw [this]
    unfold Sz.within
    simp [hexS_size, dgB_size, hr]
    omega)
  refine (HM8.out.obj4 _ (fun k => k = w7.heap.size) HK8.out (fun k hk => by subst hk; simp) HFT.out HWT.out).mono ?_
  rintro e w9 ⟨rfl, hM9⟩
  obtain ⟨⟨F, sv, vs, hM, hF⟩, hg9, _⟩ := hM9
  have HMK := Lib.hid hM
  have HG9 := Lib.hid hg9
  have HF9 := Lib.hid hF
  clear hM hg9 hF HM8 HM7 HK8 HFT HWT
  go_wp2_with fail
  refine (maker_Tree F _ b sv _ vs w9 HMK.out).mono ?_
  rintro e w10 ⟨rfl, hg10, hT⟩
  have HG10 := Lib.hid hg10
  have HT := Lib.hid hT
  clear hg10 hT
  go_wp2_with fail
  go_ret2
  exact ⟨_, F, rfl, (HG1.out.trans HG9.out).trans HG10.out, HT.out, fun k hk => Nat.lt_of_lt_of_le (HMK.out.lt k hk) HG10.out.size, fun k hk => HF9.out k (Nat.lt_of_lt_of_le hk HG1.out.size)⟩
end Go.Proofs.YtfdhgakalojahaaGreatDoor

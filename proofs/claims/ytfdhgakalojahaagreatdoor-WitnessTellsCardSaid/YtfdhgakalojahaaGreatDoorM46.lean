/- WALKS: the law WitnessTells. -/
import Derived.Test.YtfdhgakalojahaaGreatDoorM42
import Derived.Test.YtfdhgakalojahaaGreatDoorM45
import Derived.Test.YtfdhgakalojahaaGreatDoorM43
import Derived.Test.YtfdhgakalojahaaGreatDoorM32
import Derived.Test.YtfdhgakalojahaaGreatDoorM28
set_option linter.unusedSimpArgs false
set_option linter.unusedVariables false
set_option linter.unnecessarySimpa false
set_option linter.unusedSectionVars false
namespace Go.Proofs.YtfdhgakalojahaaGreatDoor
open Go Go.RowKit Tree

theorem beyond_yes (n : Nat) (hn : 2147483648 ≤ n) (w : World) : Calls Tryz.prog 5 #[.int .i64 n] w fun e w' => e = .returned (.bool true) ∧ Chg w w' [] := by
  have d1 : decide ((n : Int) < 0) = false := by simp <;> omega
  have d2 : decide ((2147483648 : Int) ≤ n) = true := by simp; omega
  go_enter Tryz.func5, Tryz.ntmps5
  go_wp2
  go_ret
  exact ⟨rfl, Chg.refl _ _⟩

theorem beyond_no (n : Nat) (hn : n < 2147483648) (w : World) : Calls Tryz.prog 5 #[.int .i64 n] w fun e w' => e = .returned (.bool false) ∧ Chg w w' [] := by
  have d1 : decide ((n : Int) < 0) = false := by simp <;> omega
  have d2 : decide ((2147483648 : Int) ≤ n) = false := by simp <;> omega
  go_enter Tryz.func5, Tryz.ntmps5
  go_wp2
  go_ret
  exact ⟨rfl, Chg.refl _ _⟩

theorem errno_same (w : World) : Calls Tryz.prog 8 #[.iface 34 (.int .i64 2), .int .i64 2] w fun e w' => e = .returned (.bool true) ∧ Chg w w' [] := by
  have a0 : ∀ (w : World), (Instr.typeAssert (.iface 34 (.int .i64 2)) 29 34 true).run Tryz.prog w = .ok (.tuple #[.int .i64 2, .bool true]) w := fun _ => by kernel_rfl
  go_enter Tryz.func8, Tryz.ntmps8
  go_wp2
  go_ret
  exact ⟨rfl, Chg.refl _ _⟩

theorem eqFields_same {P : Program} (w : World) (d : Nat) (xs : Array Value) : ∀ (fs : List Field), (∀ f ∈ fs, ∃ v, (part f.type xs f.offset).run P w = .ok v w ∧ (Op.equalIn d f.type v v).run P w = .ok true w) → (Op.eqFields d xs xs fs).run P w = .ok true w
  | [], _ => rfl
  | f :: fs, h => by
    obtain ⟨v, h1, h2⟩ := h f (by simp)
    have ih := eqFields_same w d xs fs (fun g hg => h g (by simp [hg]))
    unfold Op.eqFields
    split
    · simp only [Sem.run_bind, h1, h2, Result.andThen_ok, Bool.not_true, Bool.false_eq_true, if_false, ih]
    · exact ih

theorem head_fields : ((Tryz.prog.fieldsOf 25).toList.map fun f => (f.type, f.offset)) = [(9, 0), (3, 1), (23, 2), (3, 34)] := by kernel_rfl

theorem part_digest (cs : Array Value) (w : World) : (part 23 cs 2).run Tryz.prog w = .ok (.agg (cs.extract 2 34)) w := by kernel_rfl

theorem head_eql (o : ByteArray) (n t : Int) (rb : List UInt8) (hr : rb.length = 32) (w : World) :
    (binOp .eql 25 (.agg (hdL o n rb t).toArray) (.agg (hdL o n rb t).toArray)).run Tryz.prog w = .ok (.bool true) w := by
  rw [run_eql_struct, run_equalIn_struct w 9999 _ _ _ (by kernel_rfl) (by kernel_rfl), eqFields_same]
  · rfl
  · intro f hf
    have hm : (f.type, f.offset) ∈ ((Tryz.prog.fieldsOf 25).toList.map fun f => (f.type, f.offset)) := List.mem_map.2 ⟨f, hf, rfl⟩
    rw [head_fields] at hm
    simp only [List.mem_cons, List.mem_nil_iff, or_false, Prod.mk.injEq] at hm
    rcases hm with ⟨h1, h2⟩ | ⟨h1, h2⟩ | ⟨h1, h2⟩ | ⟨h1, h2⟩ <;> rw [h1, h2]
    · exact ⟨.string o, by simp [part, isAgg, run_underlying Tryz.underlying9, hdL], by rw [run_equalIn_string w _ _ o o Tryz.underlying9]; simp⟩
    · exact ⟨.int .i64 n, by simp [part, isAgg, run_underlying Tryz.underlying3, hdL], by rw [run_equalIn_int w _ _ _ _ n n Tryz.underlying3]; simp⟩
    · refine ⟨_, part_digest _ w, ?_⟩
      have e : (hdL o n rb t).toArray.extract 2 34 = (rb.map byV).toArray := by
        simp [hdL, hr]
      rw [e, run_equalIn_bytes w 9997 _ 5 32 Tryz.underlying23 Tryz.underlying5 size_u8 rb rb hr hr]
      simp
    · refine ⟨.int .i64 t, ?_, by rw [run_equalIn_int w _ _ _ _ t t Tryz.underlying3]; simp⟩
      have e : (hdL o n rb t).toArray[34]? = some (.int .i64 t) := by
        simp [hdL, hr]
      simp [part, isAgg, run_underlying Tryz.underlying3, e]

/-- the value that the reference tells, as the tree told -/
theorem RTellPost.val {o : ByteArray} {n t : Nat} {rb : List UInt8} {w w' : World} {e : Ending} (h : RTellPost o n t rb w e w') :
    ∃ (F2 : Nat → Prop) (cs : List Value), e = .returned (.agg cs.toArray) ∧ ValAt w' F2 (headT o (hexS (dgB rb)) n t) cs ∧ (∀ k, F2 k → k < w'.heap.size) ∧ Chg w w' [] := by
  obtain ⟨g0, g1, rfl, h0, h1, hg⟩ := h
  refine ⟨fun b => b = g0 ∨ b = g1, _, rfl, ?_, fun k hk => by rcases hk with rfl | rfl; exact h0.lt; exact h1.lt, hg⟩
  unfold headT
  simp only [ValAt]
  refine ⟨some ⟨g1, 0, none⟩, 4, some ⟨g0, 0, none⟩, 4, headV o (hexS (dgB rb)) n t, rfl, rfl, .inr ⟨g0, 0, 4, rfl, .inl rfl, fun i v hv => ?_⟩, .inr ⟨g1, 0, rfl, .inr rfl, fun i v hv => ?_⟩, ?_⟩
  · rw [Nat.zero_add]; exact (h0.cell i).trans hv
  · rw [Nat.zero_add]; exact (h1.cell i).trans hv
  · simp only [ValsAt]
    refine ⟨vC 4 false 0 o (.slice none 0 0) (.slice none 0 0), _, rfl, ⟨none, 0, none, 0, rfl⟩, vC 4 false 0 (hexS (dgB rb)) (.slice none 0 0) (.slice none 0 0), _, rfl, ⟨none, 0, none, 0, rfl⟩,
      vC 3 false (Fl.wd n) ⟨#[]⟩ (.slice none 0 0) (.slice none 0 0), _, rfl, ⟨none, 0, none, 0, rfl⟩, vC 3 false (Fl.wd t) ⟨#[]⟩ (.slice none 0 0) (.slice none 0 0), [], rfl, ⟨none, 0, none, 0, rfl⟩, rfl⟩

theorem Blk.range {w : World} {b : Nat} {cs : List Value} {T : TypeId} (h : Blk w b cs T) : w.rangeAt b 0 cs := fun j v hv => by
  rw [Nat.zero_add]; exact (h.cell j).trans hv

theorem TreeAt.kept {w w' : World} {F : Nat → Prop} {tb : Nat} {t : Tr} (h : TreeAt w F tb t) (hg : Chg w w' []) (hF : ∀ k, F k → k < w.heap.size) : TreeAt w' F tb t := by
  obtain ⟨v, h1, h2, h3⟩ := h
  exact ⟨v, hg.keeps h1, ItemAt.kept (hg.keepsF hF (by simp)) (fun _ h => h) _ _ h2, Nat.lt_of_lt_of_le h3 hg.size⟩

set_option maxRecDepth 200000 in
set_option maxHeartbeats 16000000 in
theorem law_tells (o : ByteArray) (n t : Int) (rb : List UInt8) (hr : rb.length = 32) (w : World) (hl : Laid w) :
    Calls Tryz.prog 3 #[.agg (hdL o n rb t).toArray] w fun e w' => e = .returned (.bool true) ∧ Chg w w' [] := by
  have hcb := hdL_cells o n rb t
  obtain ⟨w0, hw0⟩ : ∃ x, x = w.alloc (.cells (hdL o n rb t).toArray 25) := ⟨_, rfl⟩
  have HB0 : Hid (Blk w0 w.heap.size (hdL o n rb t) 25) := by rw [hw0]; exact Lib.hid (Blk.new w _ _)
  have HG0 : Hid (Chg w w0 []) := by rw [hw0]; exact Lib.hid ((Chg.refl w []).alloc _)
  have HW := Lib.hid hw0
  have HL := Lib.hid hl
  have hi : (Tryz.prog.info? 25).map (·.size) = some (hdL o n rb t).length := by rw [hdL_length, hr]; exact info_hd
  have HI := Lib.hid hi
  have c0 : w0.cell? ⟨w.heap.size, 0, none⟩ = some (.string o) := HB0.out.cell 0
  clear hl hi hw0
  by_cases hs : 2147483648 ≤ o.size
  · have HC := Lib.hid (beyond_yes o.size hs)
    clear hs
    go_enter Tryz.func3, Tryz.ntmps3
    go_upto_region 1 with (fail)
    rw [← HW.out]
    go_wp2_with fail
    refine (HC.out _).mono ?_
    rintro e w1 ⟨rfl, hg1⟩
    go_wp2_with fail
    go_ret
    exact ⟨rfl, HG0.out.trans hg1⟩
  · have HC := Lib.hid (beyond_no o.size (by omega))
    have HSZ : Hid (o.size ≤ 2147483648) := Lib.hid (by omega)
    clear hs
    by_cases hm : mayB (originB o) n t (rb == noD) = true
    · have hnt : ∃ a b : Nat, n = a ∧ t = b ∧ a < 9007199254740992 ∧ b < 9007199254740992 := by
        unfold mayB at hm
        simp only [Bool.and_eq_true, decide_eq_true_eq] at hm
        exact ⟨n.toNat, t.toNat, by omega, by omega, by omega, by omega⟩
      obtain ⟨n, t, rfl, rfl, hn, ht⟩ := hnt
      have HN := Lib.hid hn
      have HT := Lib.hid ht
      have HM := Lib.hid hm
      have HEQ : ∀ w, (binOp .eql 25 (.agg (hdL o n rb t).toArray) (.agg (hdL o n rb t).toArray)).run Tryz.prog w = .ok (.bool true) w := head_eql o n t rb hr
      have HR := Lib.hid hr
      have HNO : Hid ((szT (headT o (hexS (dgB rb)) n t)).nodes ≤ 4294967296) := Lib.hid (by rw [headT_sz]; show 5 ≤ 4294967296; omega)
      clear hm hn ht hr
      go_enter Tryz.func3, Tryz.ntmps3
      go_upto_region 1 with (fail)
      rw [← HW.out]
      go_wp2_with fail
      refine (HC.out _).mono ?_
      rintro e w1 ⟨rfl, hg1⟩
      have HG1 := Lib.hid (HG0.out.trans hg1)
      have HB1 := Lib.hid (HB0.out.kept hg1 (by simp))
      clear hg1 HC
      go_upto_region 6 with (first
        | (refine wpList_load_blk rfl _ _ rfl w.heap.size rfl 25 (hdL o n rb t) HB1.out _ Tryz.underlying25 rfl HI.out ?_)
        | (go_at_call 6; refine (wit_Tell o n t rb HR.out _ (by exact Laid.kept _ _ HL.out (by (repeat (first | exact HG1.out | with_reducible refine Chg.drewN ?_ _ | with_reducible refine Chg.drew ?_ | with_reducible refine Chg.alloc ?_ _ | with_reducible refine Chg.setCell ?_ _ _ (by simp) | with_reducible refine Chg.setCell ?_ _ _ (by simp; omega))))) HM.out).mono ?_; rintro e w2 ⟨tb, F, rfl, hg2, hT2, hF2, -⟩; have HG2 := Lib.hid (HG1.out.trans hg2); have HB2 := Lib.hid (HB1.out.kept hg2 (by simp)); have HT2 := Lib.hid hT2; have HF2 := Lib.hid hF2; clear hg2 hT2 hF2)
        | (refine wpList_load_blk rfl _ _ rfl w.heap.size rfl 25 (hdL o n rb t) HB2.out _ Tryz.underlying25 rfl HI.out ?_)
        | (go_at_call 7; refine (ref_HeadMay o n t rb HR.out _ HSZ.out).mono ?_; rw [HM.out]; rintro e w3 ⟨rfl, hg3⟩; have HG3 := Lib.hid (HG2.out.trans hg3); have HB3 := Lib.hid (HB2.out.kept hg3 (by simp)); have HT3 := Lib.hid (HT2.out.kept hg3 HF2.out); have HF3 : Hid (∀ k, F k → k < w3.heap.size) := Lib.hid (fun k hk => Nat.lt_of_lt_of_le (HF2.out k hk) hg3.size); clear hg3))
      clear HB1 HB2 HT2 HF2 c0
      go_wp2_with fail
      refine (wit_Read_head F tb o n t rb HR.out w3 (by exact Laid.kept _ _ HL.out HG3.out) HM.out HT3.out HF3.out).mono ?_
      rintro e w4 ⟨rfl, hg4⟩
      have HG4 := Lib.hid (HG3.out.trans hg4)
      have HB4 := Lib.hid (HB3.out.kept hg4 (by simp))
      have HT4 := Lib.hid (HT3.out.kept hg4 HF3.out)
      have HF4 : Hid (∀ k, F k → k < w4.heap.size) := Lib.hid (fun k hk => Nat.lt_of_lt_of_le (HF3.out k hk) hg4.size)
      clear hg4 HB3 HT3 HF3
      go_upto_region 7 with (first
        | (refine wpList_store_blk rfl _ _ _ rfl w4.heap.size (hdL o n rb t) rfl rfl 25 zer35 (Blk.new w4 zer35 _) (info_hd35 _ _ _ _ HR.out) (by rw [hdL_length, HR.out]; rfl) (hdL_one _ _ _ _) ?_; intro w5 hz5 hB5 hg5))
      obtain ⟨H, hH⟩ : ∃ x, x = w4.heap.size := ⟨_, rfl⟩
      have hg5' : Chg w4 w5 [] := ((Chg.refl w4 []).alloc _).fresh hg5 (by simp)
      have HG5 := Lib.hid (HG4.out.trans hg5')
      have HB5 := Lib.hid (HB4.out.kept hg5' (by simp))
      have HT5 := Lib.hid (HT4.out.kept hg5' HF4.out)
      have HF5 : Hid (∀ k, F k → k < w5.heap.size) := Lib.hid (fun k hk => Nat.lt_of_lt_of_le (HF4.out k hk) hg5'.size)
      rw [← hH] at hB5 ⊢
      have HH5 := Lib.hid hB5
      clear hH hz5 hB5 hg5 hg5' HB4 HT4 HF4
      have hu := Tryz.underlying25
      go_wp2_with (first
        | (refine wpList_load_midG 25 _ rfl w.heap.size 0 rfl (hdL o n rb t) _ HB5.out.range hu rfl HI.out (by rfl) ?_)
        | (go_at_call 11; refine (r30_Tell o n t rb HR.out HN.out HT.out _).mono ?_; intro e w6 hP; obtain ⟨F6, cs6, rfl, hV6, hF6, hg6⟩ := hP.val; have HG6 := Lib.hid (HG5.out.trans hg6); have HB6 := Lib.hid (HB5.out.kept hg6 (by simp)); have HH6 := Lib.hid (HH5.out.kept hg6 (by simp)); have HT6 := Lib.hid (HT5.out.kept hg6 HF5.out); have HF6' : Hid (∀ k, F k → k < w6.heap.size) := Lib.hid (fun k hk => Nat.lt_of_lt_of_le (HF5.out k hk) hg6.size); have HV6 := Lib.hid hV6; have HF6 := Lib.hid hF6; clear hP hV6 hF6 hg6)
        | (go_at_call 10; refine (law_is F F6 tb _ cs6 w6 HT6.out HF6'.out HV6.out HF6.out HNO.out).mono ?_; rintro e w7 ⟨rfl, hg7⟩; have HG7 := Lib.hid (HG6.out.trans hg7); have HB7 := Lib.hid (HB6.out.kept hg7 (by simp)); have HH7 := Lib.hid (HH6.out.kept hg7 (by simp)); clear hg7)
        | (refine wpList_load_midG 25 _ rfl H 0 rfl (hdL o n rb t) _ HH7.out.range hu rfl HI.out (by rfl) ?_)
        | (refine wpList_load_midG 25 _ rfl w.heap.size 0 rfl (hdL o n rb t) _ HB7.out.range hu rfl HI.out (by rfl) ?_))
      go_ret
      exact ⟨rfl, HG7.out⟩
    · have hm : mayB (originB o) n t (rb == noD) = false := by simpa using hm
      have HM : Hid (∀ w, Calls Tryz.prog 7 #[.agg (hdL o n rb t).toArray] w fun e w' => e = .returned (.bool false) ∧ Chg w w' []) := Lib.hid fun w => by
        rw [← hm]; exact ref_HeadMay o n t rb hr w HSZ.out
      have HT : Hid (∀ w, Laid w → Calls Tryz.prog 6 #[.agg (hdL o n rb t).toArray] w (TellNo w)) := Lib.hid fun w h => wit_Tell_no o n t rb hr w HSZ.out h hm
      clear hm
      go_enter Tryz.func3, Tryz.ntmps3
      go_upto_region 1 with (fail)
      rw [← HW.out]
      go_wp2_with fail
      refine (HC.out _).mono ?_
      rintro e w1 ⟨rfl, hg1⟩
      have HG1 := Lib.hid (HG0.out.trans hg1)
      have HB1 := Lib.hid (HB0.out.kept hg1 (by simp))
      clear hg1
      go_wp2_with (first
        | (refine wpList_load_blk rfl _ _ rfl w.heap.size rfl 25 (hdL o n rb t) HB1.out _ Tryz.underlying25 rfl HI.out ?_)
        | (go_at_call 6; refine (HT.out _ (by exact Laid.kept _ _ HL.out (by (repeat (first | exact HG1.out | with_reducible refine Chg.drewN ?_ _ | with_reducible refine Chg.drew ?_ | with_reducible refine Chg.alloc ?_ _ | with_reducible refine Chg.setCell ?_ _ _ (by simp) | with_reducible refine Chg.setCell ?_ _ _ (by simp; omega)))))).mono ?_; rintro e w2 ⟨rfl, hg2⟩; have HG2 := Lib.hid (HG1.out.trans hg2); have HB2 := Lib.hid (HB1.out.kept hg2 (by simp)); clear hg2)
        | (refine wpList_load_blk rfl _ _ rfl w.heap.size rfl 25 (hdL o n rb t) HB2.out _ Tryz.underlying25 rfl HI.out ?_)
        | (go_at_call 7; refine (HM.out _).mono ?_; rintro e w3 ⟨rfl, hg3⟩; have HG3 := Lib.hid (HG2.out.trans hg3); clear hg3)
        | (go_at_call 8; refine (errno_same _).mono ?_; rintro e w4 ⟨rfl, hg4⟩))
      go_ret
      exact ⟨rfl, HG3.out.trans hg4⟩
end Go.Proofs.YtfdhgakalojahaaGreatDoor

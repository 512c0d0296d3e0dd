/- WALKS: the program's layer 10: an object that is too great. WALKS: the program's layer 10: a step of an object. -/
import Derived.Test.YtfdhgakalojahaaGreatDoorM27
import Derived.Test.YtfdhgakalojahaaGreatDoorM23
set_option linter.unusedSimpArgs false
set_option linter.unusedVariables false
set_option linter.unnecessarySimpa false
set_option linter.unusedSectionVars false
namespace Go.Proofs.YtfdhgakalojahaaGreatDoor
open Go Go.RowKit Tree

set_option maxRecDepth 100000 in
set_option maxHeartbeats 2000000 in
theorem node_object_long (F : Nat → Prop) (T : TypeId) (b : Nat) (sv : Value) (l : List Tr) (vs : List Value) (w : World) (hM : MkAt w F T b sv l vs) (G : Nat → Prop) (sk : Value) (ks : List ByteArray)
    (hK : RowAt w G sk (strs ks)) (hG : ∀ k, G k → k < w.heap.size) (hr : ∀ s ∈ ks, Utf.rightB s = true) (hs : ∀ s ∈ ks, s.size ≤ 2147483648) (hk : ks.length ≤ 65536) (hnd : ks.Nodup) (hby : (ks.map ByteArray.size).sum ≤ 1099511627776) (hF : Fits l) (hn : ks.length ≤ l.length) (hl : l.length ≤ 2147483648)
    (hw : (szT (objT ks (l.drop (l.length - ks.length)))).within = false) :
    Calls Tryz.prog 79 #[.pointer (some ⟨b, 0, none⟩), sk] w (ObjNo w) := by
  obtain ⟨a, c, rfl, hcell⟩ := hK.cell
  have hkl : (strs ks).length = ks.length := by simp [strs]
  have HK := Lib.hid hK
  have HC := Lib.hid hcell
  have HR := Lib.hid hr
  have HS := Lib.hid hs
  have HM := Lib.hid hM
  have HND := Lib.hid hnd
  have hmm := @run_makeMap Tryz.prog
  have HWI := Lib.hid hw
  clear hw
  clear hM hK hr hs hnd hcell
  rw [hkl]
  go_enter Tryz.func79, Tryz.ntmps79
  go_wp2_with fail
  go_loopw [18] (fun i wr => ∃ k : Nat, k ≤ ks.length ∧ i = .int .i64 k ∧ Chg w wr [])
    (fun i _ => ks.length - (intOf i).toNat)
  case atStart => exact ⟨0, by omega, rfl, Chg.refl _ _⟩
  case round =>
    obtain ⟨k, hk1, rfl, hg⟩ := hrel
    by_cases hlt : k < ks.length
    · have hks : (strs ks)[k]? = some (.string ks[k]) := by simp [strs, hlt]
      obtain ⟨b', o, hab, hGb, hcv⟩ := HC.out k _ hks
      subst hab
      have hcv' := hg.keeps hcv
      have hrk := HR.out ks[k] (List.getElem_mem hlt)
      have hsk := HS.out ks[k] (List.getElem_mem hlt)
      obtain ⟨s, hs⟩ : ∃ s, s = ks[k] := ⟨_, rfl⟩
      rw [← hs] at hcv' hrk hsk
      have HRk := Lib.hid hrk
      clear hks hcv hrk hs
      go_wp2_with (first
        | (go_at_call 54; refine (utf_Right s _ hsk).mono ?_; rintro e w2 ⟨rfl, hg2⟩; rw [HRk.out])
        | (go_at_call 70; refine (node_refuse_ok _ _).mono ?_; rintro e w3 ⟨rfl, rfl⟩))
      go_roundw
      case rel => exact ⟨k + 1, by omega, by go_num, hg.trans hg2⟩
      case measure => simp [intOf]; omega
    · have hkk : k = ks.length := by omega
      subst hkk
      obtain ⟨wa, hwa⟩ : ∃ x, x = wr := ⟨_, rfl⟩
      subst hwa
      go_wp2_with fail
      generalize hw2 : wa.alloc (.map #[] 0) = w2
      go_loopw [29, 7] (fun i y wq => ∃ k : Nat, k ≤ ks.length ∧ i = .int .i64 k ∧ y = .int .i64 ((ks.take k).map ByteArray.size).sum ∧ Chg w wq [] ∧ IxAt wq wa.heap.size ks k)
        (fun i _ _ => ks.length - (intOf i).toNat)
      case atStart => exact ⟨0, by omega, rfl, by simp, by rw [← hw2]; exact hg.alloc _, by rw [← hw2]; exact IxAt.made _ _⟩
      case round =>
        obtain ⟨k, hk2, rfl, rfl, hgq, hix⟩ := hrel
        by_cases hlt2 : k < ks.length
        · have hks : (strs ks)[k]? = some (.string ks[k]) := by simp [strs, hlt2]
          obtain ⟨b', o, hab, hGb, hcv⟩ := HC.out k _ hks
          subst hab
          have hcv' := hgq.keeps hcv
          have hsk := HS.out ks[k] (List.getElem_mem hlt2)
          have hget : ks[k]? = some ks[k] := List.getElem?_eq_getElem hlt2
          have hnm : ks[k] ∉ ks.take k := by
            intro hm
            obtain ⟨j, hj⟩ := List.mem_iff_getElem?.1 hm
            rw [List.getElem?_take] at hj
            split at hj
            · have := (List.getElem?_inj (show j < ks.length by omega) HND.out).1 (hj.trans hget.symm)
              omega
            · cases hj
          obtain ⟨s, hs⟩ : ∃ s, s = ks[k] := ⟨_, rfl⟩
          rw [← hs] at hcv' hsk hget hnm
          obtain ⟨cc, hlook⟩ := hix.look_ok (s := s) (by unfold maxLen; omega) false (by simp [hnm])
          have HIX := Lib.hid hix
          have HGET := Lib.hid hget
          have HNM := Lib.hid hnm
          have HSUM : Hid (((ks.take (k + 1)).map ByteArray.size).sum = ((ks.take k).map ByteArray.size).sum + s.size) := by
            unfold Hid; rw [List.take_add_one, hget]; simp
          have HB : ((ks.take k).map ByteArray.size).sum ≤ 1099511627776 := by
            have e : (ks.map ByteArray.size).sum = ((ks.take k).map ByteArray.size).sum + ((ks.drop k).map ByteArray.size).sum := by
              rw [← List.sum_append, ← List.map_append, List.take_append_drop]
            omega
          clear hks hcv hs hix hget hnm
          obtain ⟨M, hMs⟩ : ∃ M, M = ((ks.take k).map ByteArray.size).sum := ⟨_, rfl⟩
          rw [← hMs] at HB
          have HMs := Lib.hid hMs
          rw [← hMs]
          clear hMs
          go_wp2_with (first
            | (at_mapUpdate; refine wpList_mapUpdate_ix _ rfl _ _ _ rfl wa.heap.size k ks rfl HIX.out s rfl rfl HGET.out HNM.out (by unfold maxLen; omega) (by omega) ?_; intro w5 hix5 hg5)
            | (go_at_call 70; refine (node_refuse_ok _ _).mono ?_; rintro e w3 ⟨rfl, rfl⟩))
          go_roundw
          case rel => exact ⟨k + 1, by omega, by go_num, by rw [HSUM.out, ← HMs.out]; go_num, hgq.fresh hg5 (by have := hg.size; simp; omega), hix5⟩
          case measure => simp [intOf]; omega
        · have hkk : k = ks.length := by omega
          subst hkk
          obtain ⟨wb, hwb⟩ : ∃ x, x = wr := ⟨_, rfl⟩
          subst hwb
          have hvl := HM.out.items.length
          have HM2 := Lib.hid (HM.out.kept hgq)
          rw [List.take_length]
          have HIX := Lib.hid hix
          clear hix
          have HFits := Lib.hid hF
          obtain ⟨S, hS⟩ : ∃ S, (szL (l.drop (vs.length - ks.length))).over (ks.map ByteArray.size).sum = S := ⟨_, rfl⟩
          have HSz := Lib.hid hS
          clear hS
          obtain ⟨s1, s2, s3⟩ := S
          go_wp2_with (first
            | (go_at_call 76; go_loud (refine (node_take_ok F T b sv l vs _ HM2.out ks.length hn hl).mono ?_; rintro e w5 ⟨v5, rfl, hv5a, hv5b, hv5c⟩))
            | (go_at_call 78; go_loud (
                refine (node_summed (fun k => F k ∨ v5.ownBlock = some k) v5 (l.drop (vs.length - ks.length)) (vs.drop (vs.length - ks.length)) _ w5 (hv5a.rowAt fun g hg => .inr hg)
                  ((HM2.out.items.kept (hv5c.keepsF HM2.out.lt (by simp)) (fun _ h => .inl h)).drop _) (by
                    rintro k (hk | hk)
                    · exact Nat.lt_of_lt_of_le (HM2.out.lt k hk) hv5c.size
                    · exact hv5a.lt hk) (HFits.out.drop _) (by simp; omega) (by omega)).mono ?_
                rintro e w6 ⟨rfl, hg6⟩; rw [HSz.out]; unfold szV))
            | (go_at_call 106; go_loud (
                have HK6 := Lib.hid (HK.out.kept ((hgq.trans (hv5c.trans hg6)).keepsF hG (by simp)) (fun _ h => h))
                rw [hkl] at HK6
                refine (clone_string G _ _ w6 HK6.out (by intro u hu; simp [strs] at hu; obtain ⟨_, _, rfl⟩ := hu; rfl) (by rw [hkl]; omega)).mono ?_
                rintro e w7 ⟨v7, rfl, hv7a, hv7b, hv7c⟩; obtain ⟨a7, c7, rfl, ha7⟩ := hv7a.form; rw [hkl] at hv7a hv7b ⊢))
            | (go_at_call 107; go_loud (
                refine (sortFunc_any ks a7 c7 _ HR.out HS.out (by omega) (hv7a.kept ((Chg.refl w7 []).alloc _) (by simp))).mono ?_
                rintro e w8 ⟨rfl, hL8, hg8⟩
                have hnm : w7.heap.size ∉ (Value.slice a7 ks.length c7).ownBlock.toList := by
                  intro hm
                  have := hv7a.lt (g := w7.heap.size) (by simpa using hm)
                  omega
                have HO8 := Lib.hid ((Blk.new w7 [.int .i64 s1, .int .i64 s2, .int .i64 s3, .slice a7 ks.length c7, .slice none 0 0] 177).kept hg8 hnm)
                obtain ⟨o8a, o8b, o80, o81, o82, o83, o84⟩ := Blk.cells5 HO8.out)))
          have hs5 := hv5c.size
          have hs6 := hg6.size
          have hs7 := hv7c.size
          have hs8 := hg8.size
          have hsb := hgq.size
          have hixl := HIX.out.lt
          simp only [World.size_alloc] at hs8
          have hown7 : ∀ i, i ∈ (Value.slice a7 ks.length c7).ownBlock.toList → w6.heap.size ≤ i := fun i hi => hv7b i (by simpa using hi)
          have HC58 := Lib.hid (((hg6.trans hv7c).alloc (.cells #[.int .i64 s1, .int .i64 s2, .int .i64 s3, .slice a7 ks.length c7, .slice none 0 0] 177)).fresh hg8 (fun i hi => by have := hown7 i hi; omega))
          have HCb8 := Lib.hid (hv5c.trans HC58.out)
          have HL58 := Lib.hid (hv5a.kept HC58.out (by simp))
          have h5o : ∀ g, v5.ownBlock = some g → g ≠ w7.heap.size := fun g hg => by have := hv5a.lt hg; omega
          have HIX8 := Lib.hid (HIX.out.kept HCb8.out (by simp))
          have HM8 := Lib.hid (HM2.out.kept HCb8.out)
          have HL8 := Lib.hid hL8
          have HOa := Lib.hid hnm
          have HCq := Lib.hid hgq
          have hV := Lib.hid hvl
          have ho8 : w7.heap.size < w8.heap.size := by omega
          have H7o : Hid (∀ g, (Value.slice a7 ks.length c7).ownBlock = some g → wb.heap.size ≤ g) := fun g hg => by have := hv7b g hg; omega
          have hbo : wb.heap.size ≤ w7.heap.size := by omega
          clear hs5 hs6 hs7 hv5a hv5b hv5c hg6 hv7a hv7b hv7c hg8 hL8 hnm hgq hown7 o8a o8b o80 o81 o82 o83 o84 ha7
          obtain ⟨o, ho⟩ : ∃ o, o = w7.heap.size := ⟨_, rfl⟩
          rw [← ho] at ho8 HO8 hbo HOa h5o ⊢
          have H5o := Lib.hid h5o
          clear ho hs8 h5o
          go_loopw [72] (fun i wr => ∃ k : Nat, ∃ sl, k ≤ ks.length ∧ i = .int .i64 k ∧ Chg w8 wr [o] ∧ Blk wr o [.int .i64 s1, .int .i64 s2, .int .i64 s3, .slice a7 ks.length c7, sl] 177 ∧
              Lst wr sl 72 ((objV ks (vs.drop (vs.length - ks.length))).take k) ∧ ∀ g, sl.ownBlock = some g → w8.heap.size ≤ g)
            (fun i _ => ks.length - (intOf i).toNat)
          case atStart => exact ⟨0, _, by omega, rfl, Chg.refl _ _, HO8.out, Lst.nil _ _, fun g hg => by cases hg⟩
          case round =>
            obtain ⟨k, sl, hk3, rfl, hg3, hB3, hL3, hO3⟩ := hrel
            obtain ⟨lo, fo, p0, p1, p2, p3, p4⟩ := Blk.cells5 hB3
            have HG3 := Lib.hid hg3
            have HB3 := Lib.hid hB3
            have HL3 := Lib.hid hL3
            have HO3 := Lib.hid hO3
            clear hg3 hB3 hL3 hO3
            by_cases hlt3 : k < ks.length
            · have hsl : k < (sortK ks).length := by rw [sortK_length]; exact hlt3
              have hs : (sortK ks)[k]? = some (sortK ks)[k] := List.getElem?_eq_getElem hsl
              obtain ⟨s, hse⟩ : ∃ s, s = (sortK ks)[k] := ⟨_, rfl⟩
              rw [← hse] at hs
              clear hse hsl
              have hm : s ∈ ks := sortK_mem.1 (List.mem_of_getElem? hs)
              have hpg := place_get hm
              have hpl := place_lt hm
              obtain ⟨u, hu1, hu2⟩ := objV_get (vs := vs.drop (vs.length - ks.length)) (by rw [List.length_drop]; have := hV.out; omega) hs
              obtain ⟨ix, hix⟩ : ∃ ix, ix = place ks s := ⟨_, rfl⟩
              rw [← hix] at hpg hpl hu1
              clear hix
              have hut : ∃ t, ItemAt w8 F t u := by
                have hi8 := HM8.out.items.drop (vs.length - ks.length)
                have hil : ix < (l.drop (vs.length - ks.length)).length := by rw [List.length_drop]; have := hV.out; omega
                obtain ⟨v', c1, c2⟩ := hi8.get ix _ (List.getElem?_eq_getElem hil)
                rw [hu1] at c1; injection c1 with c1; subst c1
                exact ⟨_, c2⟩
              obtain ⟨tu, htu⟩ := hut
              obtain ⟨ti, xi, rfl⟩ := htu.iface
              have hkc : ∃ g7, a7 = some ⟨g7, 0, none⟩ ∧ wr.cell? ⟨g7, k, none⟩ = some (.string s) := by
                obtain ⟨a', c', e', ha'⟩ := HL8.out.form
                injection e' with e1 _ e3
                subst e1
                obtain ⟨g7, rfl⟩ := ha' (by intro h0; have h1 := congrArg List.length h0; unfold strs at h1; rw [List.length_map, sortK_length] at h1; rw [h1] at hlt3; simp at hlt3)
                have hc8 : w8.cell? ⟨g7, k, none⟩ = some (.string s) := HL8.out.cell rfl k _ (by simp [strs, hs])
                refine ⟨g7, rfl, (HG3.out.cell (p := ⟨g7, k, none⟩) (HL8.out.lt rfl) ?_).trans hc8⟩
                have := HOa.out
                simp [Value.ownBlock] at this ⊢
                exact fun e => this e.symm
              obtain ⟨g7, rfl, hkc⟩ := hkc
              have hvc : ∃ g5 c5, v5 = .slice (some ⟨g5, 0, none⟩) ks.length c5 ∧ wr.cell? ⟨g5, ix, none⟩ = some (.iface ti xi) := by
                obtain ⟨a', c', e', ha'⟩ := HL58.out.form
                obtain ⟨g5, rfl⟩ := ha' (by intro h0; rw [h0] at hu1; simp at hu1)
                have hlen : (vs.drop (vs.length - ks.length)).length = ks.length := by rw [List.length_drop]; have := hV.out; omega
                rw [hlen] at e'
                refine ⟨g5, c', e', ?_⟩
                have h5 : v5.ownBlock = some g5 := by rw [e']; rfl
                have hc8 : w8.cell? ⟨g5, ix, none⟩ = some (.iface ti xi) := HL58.out.cell h5 ix _ hu1
                refine (HG3.out.cell (p := ⟨g5, ix, none⟩) (HL58.out.lt h5) ?_).trans hc8
                have := H5o.out g5 h5
                simp
                exact this
              obtain ⟨g5, c5, rfl, hvc⟩ := hvc
              have HIXr := Lib.hid ((HIX8.out.kept HG3.out (by simp; omega)).kept ((Chg.refl wr []).drew) (by simp))
              have hsz := HS.out s hm
              have hlook := HIXr.out.look (s := s) (by unfold maxLen; omega) hpl hpg
              have HLN : Hid (((objV ks (vs.drop (vs.length - ks.length))).take k).length = k) := by
                unfold Hid; rw [List.length_take, objV_length]; omega
              have hno : o ∉ sl.ownBlock.toList := by
                intro hh
                have := HO3.out o (by simpa using hh)
                omega
              have HNO := Lib.hid hno
              clear hno hpg hu1 htu hm hs hsz
              go_wp2
              go_region_law (first | (refine step_append1 rfl _ _ _ rfl 72 .nilIface 16 Tryz.underlying95 info_item rfl sl ((objV ks (vs.drop (vs.length - ks.length))).take k) (by rfl) (by exact HL3.out.kept (bs := []) (by (repeat (first | exact Chg.refl _ _ | with_reducible refine Chg.drewN ?_ _ | with_reducible refine Chg.drew ?_ | with_reducible refine Chg.alloc ?_ _ | with_reducible refine Chg.setCell ?_ _ _ (by simp) | with_reducible refine Chg.setCell ?_ _ _ (by simp; omega)))) (by simp)) wr.heap.size (.iface ti xi) (by rfl) (by exact cell_new (by simp) _ _) rfl (by rw [HLN.out]; omega) (by rw [HLN.out]; omega) ?_; rw [HLN.out]; intro g cap' w9 hL9 hC9 hG9; have HB9 := Lib.hid ((HB3.out.alloc (.cells #[.iface ti xi] 72)).drew.kept hC9 HNO.out); have c9 : w9.cell? ⟨o, 4, none⟩ = some sl := HB9.out.cell 4; have f9 : ∀ j, w9.frozen? ⟨o, j, none⟩ = false := (fun j => HB9.out.frozen j); have lb9 := HB9.out.lt))
              all_goals
                go_wp2
                go_roundw
                case rel =>
                  have G3 := HG3.out
                  have hsz3 := HG3.out.size
                  refine ⟨k + 1, .slice (some ⟨g, 0, none⟩) (k + 1) cap', by omega, by go_num, (Chg.own (sv := .slice none 0 0) (by (repeat (first | exact G3 | with_reducible refine Chg.drewN ?_ _ | with_reducible refine Chg.drew ?_ | with_reducible refine Chg.alloc ?_ _ | with_reducible refine Chg.setCell ?_ _ _ (by simp) | with_reducible refine Chg.setCell ?_ _ _ (by simp; omega)))) hC9 (fun g hg => by cases hg) (fun g hg => .inr (HO3.out g hg))).setCell _ _ (by simp), HB9.out.set 4 _, ?_, ?_⟩
                  · rw [List.take_add_one, hu2]
                    exact hL9.kept (bs := [o]) ((Chg.refl _ _).setCell _ _ (by simp)) (by
                      intro g' hg'
                      simp [Value.ownBlock] at hg'; subst hg'
                      rcases hG9 with h | h
                      · intro he; simp at he; subst he; exact HNO.out (by simp [h])
                      · simp at h; intro he; simp at he; omega)
                  · intro g' hg'
                    simp [Value.ownBlock] at hg'; subst hg'
                    rcases hG9 with h | h
                    · exact HO3.out _ h
                    · simp at h; omega
                case measure => simp [intOf]; omega
            · have hkk : k = ks.length := by omega
              subst hkk
              have hdl : (l.drop (vs.length - ks.length)).length = ks.length := by rw [List.length_drop]; have := hV.out; omega
              have hdv : (vs.drop (vs.length - ks.length)).length = ks.length := by rw [List.length_drop]; have := hV.out; omega
              have hwe : l.drop (l.length - ks.length) = l.drop (vs.length - ks.length) := by rw [hV.out]
              have hszT : szT (objT ks (l.drop (vs.length - ks.length))) = ⟨s1, s2, s3⟩ := (szT_objT HND.out hdl.symm).trans HSz.out
              have hsz3 := HG3.out.size
              have hcb : Chg wb wr [] := HCb8.out.fresh HG3.out (by simp; exact hbo)
              have hcw : Chg w wr [] := HCq.out.trans hcb
              obtain ⟨F', hF'⟩ : ∃ F' : Nat → Prop, F' = fun k => F k ∨ (wb.heap.size ≤ k ∧ k < wr.heap.size) := ⟨_, rfl⟩
              have hM' : MkAt wr F' T b sv l vs := by
                subst hF'
                refine HM2.out.grown hcb (fun k hk => .inl hk) (fun k hk => hk.imp_right And.left) (fun k hk => ?_)
                rcases hk with hk | hk
                · have := HM2.out.lt k hk; have := hcb.size; omega
                · exact hk.2
              have hit : ItemAt wr F' (objT ks (l.drop (vs.length - ks.length))) (.iface 174 (.pointer (some ⟨o, 0, none⟩))) := by
                have h7 : Lst wr (.slice a7 ks.length c7) 9 (strs (sortK ks)) := HL8.out.kept HG3.out (by
                  intro g hg he
                  simp at he
                  subst he
                  exact HOa.out (by simp [hg]))
                unfold objT
                simp only [ItemAt]
                have e := hszT
                unfold objT at e
                rw [e]
                refine ⟨o, .slice a7 ks.length c7, sl, objV ks (vs.drop (vs.length - ks.length)), rfl, by subst hF'; exact .inr ⟨hbo, lo⟩, by rw [sortK_length, objL_length], p0, p1, p2, p3, h7.rowAt ?_, p4, ?_, ?_⟩
                · intro g hg
                  subst hF'
                  have h1 := H7o.out g hg
                  have h2 := h7.lt hg
                  exact .inr ⟨h1, h2⟩
                · have := HL3.out
                  rw [List.take_of_length_le (by rw [objV_length]; omega)] at this
                  refine this.rowAt fun g hg => ?_
                  subst hF'
                  have h1 := HO3.out g hg
                  have h2 := this.lt hg
                  have h3 := HCb8.out.size
                  exact .inr ⟨by omega, h2⟩
                · exact objV_items (by rw [hdl]) (hM'.items.drop _)
              have HM' := Lib.hid hM'
              have HIT := Lib.hid hit
              have HCW := Lib.hid hcw
              have HWO : Hid ((szT (objT ks (l.drop (vs.length - ks.length)))).within = false) := by
                have := HWI.out
                rwa [hwe] at this
              have HF' := Lib.hid hF'
              have HWE := Lib.hid hwe
              obtain ⟨a5, c5, e5, _⟩ := HL58.out.form
              rw [hdv] at e5
              subst e5
              clear hdl hdv hwe hszT hcb hM' hit hcw hF'
              go_wp2_with (first
                | (go_at_call 77; go_loud (refine (node_group_no F' _ _ b ks.length _ HIT.out HWO.out).mono ?_; rintro e w9 ⟨rfl, hg9⟩)))
              exact ⟨rfl, ⟨3, rfl⟩, HCW.out.trans hg9⟩
end Go.Proofs.YtfdhgakalojahaaGreatDoor

namespace Go.Proofs.YtfdhgakalojahaaGreatDoor
open Go Go.RowKit Tree

set_option maxRecDepth 100000 in
set_option maxHeartbeats 2000000 in
theorem node_do_obj_ok (F : Nat → Prop) (T : TypeId) (b : Nat) (sv : Value) (l : List Tr) (vs : List Value) (keys : Value) (w : World) (hM : MkAt w F T b sv l vs) (G : Nat → Prop) (ks : List ByteArray)
    (hK : RowAt w G keys (strs ks)) (hG : ∀ k, G k → k < w.heap.size) (hr : ∀ s ∈ ks, Utf.rightB s = true) (hs : ∀ s ∈ ks, s.size ≤ 2147483648) (hk : ks.length ≤ 65536) (hnd : ks.Nodup) (hby : (ks.map ByteArray.size).sum ≤ 1099511627776) (hF : Fits l) (hn : ks.length ≤ l.length) (hl : l.length ≤ 2147483648)
    (hw : (szT (objT ks (l.drop (l.length - ks.length)))).within = true) :
    Calls Tryz.prog 41 #[.pointer (some ⟨b, 0, none⟩), StpV 6 false 0 ⟨#[]⟩ 0 keys] w (DoPost F T b sv (l.take (l.length - ks.length) ++ [objT ks (l.drop (l.length - ks.length))]) w) := by
  obtain ⟨ka, kc, rfl, _⟩ := hK.cell
  have hmf : ∀ (fn : Fn) (first cap : Array Value) (w : World), (Instr.makeFunc fn first cap).run Tryz.prog w = .ok (.func fn first cap) w := fun _ _ _ _ => rfl
  have hkl : (strs ks).length = ks.length := by simp [strs]
  rw [hkl] at hK ⊢
  have hu : usedB 6 false 0 ⟨#[]⟩ 0 ks.length = true := by unfold usedB; simp
  have HMk := Lib.hid hM
  have HU := Lib.hid hu
  have HK := Lib.hid hK
  have HG := Lib.hid hG
  have HR := Lib.hid hr
  have HS := Lib.hid hs
  have HND := Lib.hid hnd
  have HF := Lib.hid hF
  have HW := Lib.hid hw
  have HS0 := Lib.hid ((Blk.new w [.int .i64 6, .bool false, .int .u64 0, .string ⟨#[]⟩, .int .i64 0, .slice ka ks.length kc] 48).alloc (.cells #[.nilIface] 29))
  have HE0 := Lib.hid (Blk.new1 w (.cells [.int .i64 6, .bool false, .int .u64 0, .string ⟨#[]⟩, .int .i64 0, .slice ka ks.length kc].toArray 48) [.nilIface] 29)
  have hb := hM.blk.lt
  clear hM hu hK hG hr hs hnd hF hw hkl
  go_enter_defers Tryz.func41, Tryz.ntmps41
  unfold StpV
  go_wp2_with (first
    | (go_at_call 71; refine (node_used 6 false 0 ⟨#[]⟩ 0 ka ks.length kc _).mono ?_; rintro e w1 ⟨rfl, hg1⟩; rw [HU.out]; have HS1 := Lib.hid (HS0.out.kept hg1 (by simp)); have HE1 := Lib.hid (HE0.out.kept hg1 (by simp)); obtain ⟨s1a, s1b, s10, s11, s12, s13, s14, s15⟩ := Blk.cells6 HS1.out; obtain ⟨e1a, e1b, e10⟩ := Blk.cells1 HE1.out; have HG1 := Lib.hid hg1; clear hg1)
    | (go_at_call 70; refine (node_refuse_ok _ _).mono ?_; rintro e w3 ⟨rfl, rfl⟩)
    | (go_at_call 79; go_loud (have G2 := (((Chg.refl w []).alloc (.cells [.int .i64 6, .bool false, .int .u64 0, .string ⟨#[]⟩, .int .i64 0, .slice ka ks.length kc].toArray 48)).alloc (.cells #[.nilIface] 29)).trans HG1.out; refine (node_object_ok F T b sv l vs _ (HMk.out.kept G2) G _ ks (HK.out.kept (G2.keepsF HG.out (by simp)) (fun _ h => h)) (fun k hk => Nat.lt_of_lt_of_le (HG.out k hk) G2.size) HR.out HS.out hk HND.out hby HF.out hn hl HW.out).mono ?_; rintro e w4 ⟨rfl, F', hF1, hF2, hP⟩; have HF1 := Lib.hid hF1; have HF2 := Lib.hid hF2; have HP := Lib.hid hP; clear hF1 hF2 hP G2; have HE4 := Lib.hid (HE1.out.kept HP.out.chg (HMk.out.newNotIn (w.heap.size + 1) (by omega))); obtain ⟨e4a, e4b, e40⟩ := Blk.cells1 HE4.out)))
  refine leaves_cons (f := 69) (args := #[.pointer (some ⟨w.heap.size + 1, 0, none⟩)]) (by simp) (by simp [go_sem]) ?_
  refine (catch_idle ⟨w.heap.size + 1, 0, none⟩ _).mono ?_
  rintro e u' w'' ⟨rfl, rfl, rfl⟩
  have e50 : (w4.setCell ⟨w.heap.size + 1, 0, none⟩ .nilIface).cell? ⟨w.heap.size + 1, 0, none⟩ = some .nilIface := (HE4.out.set 0 _).cell 0
  simp [Leaves, settle, results, Tryz.results41, go_sem, e50]
  have hz1 := HG1.out.size
  simp at hz1
  refine DoPost.done ((((Chg.refl w []).alloc _).alloc _).trans HG1.out) HP.out HF1.out (fun k hk hlt => HF2.out k hk (by omega)) hb (fun g hg => HMk.out.lst.lt hg) _ (by omega) e1a (fun hf => ?_) _
  have := HF2.out _ hf e1a
  have := HMk.out.lt _ this
  omega
end Go.Proofs.YtfdhgakalojahaaGreatDoor

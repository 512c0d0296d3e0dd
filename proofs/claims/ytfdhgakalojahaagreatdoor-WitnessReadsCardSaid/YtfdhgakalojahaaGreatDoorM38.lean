/- WALKS: the reference's layer 10: the object of keys and values. PLAIN: the trees that steps make: their keys rise, their numbers are finite, their texts right. WALKS: the reference's layer 30: a value as a number, or -1. -/
import Derived.Test.YtfdhgakalojahaaGreatDoorM36
import Derived.Test.YtfdhgakalojahaaGreatDoorM37
import Derived.Test.YtfdhgakalojahaaGreatDoorM34
import Derived.Test.YtfdhgakalojahaaGreatDoorM30
import Derived.Test.YtfdhgakalojahaaGreatDoorM35
set_option linter.unusedSimpArgs false
set_option linter.unusedVariables false
set_option linter.unnecessarySimpa false
set_option linter.unusedSectionVars false
namespace Go.Proofs.YtfdhgakalojahaaGreatDoor
open Go Go.RowKit Tree

def MadePost (F : Nat → Prop) (ks : List ByteArray) (l : List Tr) (w : World) (e : Ending) (w' : World) : Prop :=
  ∃ (F' : Nat → Prop) (cs : List Value), e = .returned (.agg cs.toArray) ∧ (∀ k, F k → F' k) ∧ (∀ k, F' k → k < w.heap.size → F k) ∧ (∀ k, F' k → k < w'.heap.size) ∧ ValAt w' F' (objT ks l) cs ∧ Chg w w' []

theorem LstK.rowN {w : World} {a : Option Addr} {n c sz : Nat} {e : TypeId} {xs : List Value} {F : Nat → Prop} (h : LstK w (.slice a n c) e sz n xs) (hl : xs.length = n * sz) (hF : ∀ g, (Value.slice a n c).ownBlock = some g → F g) : RowN w F a xs := by
  by_cases h0 : xs = []
  · exact .inl h0
  · obtain ⟨a', c', e', ha'⟩ := h.form
    injection e' with e1 _ _
    subst e1
    obtain ⟨g, rfl⟩ := ha' (by
      rcases Nat.eq_zero_or_pos n with h1 | h1
      · rw [h1, Nat.zero_mul] at hl; exact absurd (List.eq_nil_of_length_eq_zero hl) h0
      · exact h1)
    exact .inr ⟨g, 0, rfl, hF g rfl, fun i v hv => by rw [Nat.zero_add]; exact h.cell rfl i v hv⟩

theorem snd_length {l : List Mem} (h : ∀ p ∈ l, MemOK p) : (l.flatMap Prod.snd).length = l.length * 6 := by
  induction l with
  | nil => rfl
  | cons p l ih =>
    have h1 := (h p (by simp)).length
    unfold memC at h1
    rw [List.flatMap_cons, List.length_append, ih fun q hq => h q (by simp [hq]), List.length_cons]
    simp only [List.length_cons] at h1
    omega

theorem flat_get {cl : List (List Value)} (h6 : ∀ c ∈ cl, c.length = 6) : ∀ (i : Nat) (c : List Value), cl[i]? = some c → ∀ (j : Nat) (v : Value), c[j]? = some v → cl.flatten[i * 6 + j]? = some v := by
  induction cl with
  | nil => intro i c h; simp at h
  | cons d cl ih =>
    intro i c h j v hv
    rw [List.flatten_cons]
    cases i with
    | zero =>
      simp at h; subst h
      rw [Nat.zero_mul, Nat.zero_add, List.getElem?_append_left (List.getElem?_eq_some_iff.1 hv).1, hv]
    | succ i =>
      have hd := h6 d (by simp)
      rw [List.getElem?_append_right (by omega), show (i + 1) * 6 + j - d.length = i * 6 + j from by omega]
      exact ih (fun c hc => h6 c (by simp [hc])) i c (by simpa using h) j v hv

set_option maxRecDepth 100000 in
set_option maxHeartbeats 8000000 in
theorem r10_Made (F : Nat → Prop) (ks : List ByteArray) (l : List Tr) (sk si : Value) (vs : List Value) (w : World) (hK : RowC w sk 1 ks.length (strs ks)) (hI : RowC w si 6 l.length vs) (hV : ValsAt w F l vs) (hF : ∀ b, F b → b < w.heap.size)
    (hk : ∀ s ∈ ks, KeyOK s) (hnd : ks.Nodup) (hl : ks.length = l.length) (hn : ks.length ≤ 65536) :
    Calls Tryz.prog 67 #[sk, si] w (MadePost F ks l w) := by
  obtain ⟨ka, kc, rfl, hkc, _⟩ := hK.form
  obtain ⟨ia, ic, rfl, hic, _⟩ := hI.form
  obtain ⟨cl, hcl, hcl2, hcl3⟩ := hV.chunks
  rw [← hl] at hI ⊢
  obtain ⟨n, hn0⟩ : ∃ n, n = ks.length := ⟨_, rfl⟩
  rw [← hn0] at hK hI hn hkc ⊢
  have hic' : n ≤ ic := by omega
  obtain ⟨Z, hZ⟩ : ∃ Z, Z = ks.zip cl := ⟨_, rfl⟩
  have hZl : Z.length = n := by rw [hZ, List.length_zip]; omega
  have hZok : ∀ p ∈ Z, MemOK p := by
    intro p hp
    rw [hZ] at hp
    obtain ⟨j, hj⟩ := List.mem_iff_getElem?.1 hp
    obtain ⟨h1, h2⟩ := List.getElem?_zip_eq_some.1 hj
    have hlt : j < l.length := by have := (List.getElem?_eq_some_iff.1 h2).1; omega
    exact (hcl3 j l[j] p.2 (List.getElem?_eq_getElem hlt) h2).mem (hk _ (List.mem_of_getElem? h1))
  have hZg : ∀ i, i < n → ∃ p : Mem, Z[i]? = some p ∧ ks[i]? = some p.1 ∧ cl[i]? = some p.2 := by
    intro i hi
    have : i < Z.length := by omega
    obtain ⟨p, hp⟩ : ∃ p, Z[i]? = some p := ⟨_, List.getElem?_eq_getElem this⟩
    refine ⟨p, hp, ?_⟩
    rw [hZ] at hp
    exact List.getElem?_zip_eq_some.1 hp
  have hflat : ∀ i c, cl[i]? = some c → ∀ j v, c[j]? = some v → vs[i * 6 + j]? = some v := by
    rw [hcl]
    refine flat_get fun c hc => ?_
    obtain ⟨j, hj⟩ := List.mem_iff_getElem?.1 hc
    have hlt : j < l.length := by have := (List.getElem?_eq_some_iff.1 hj).1; omega
    exact (hcl3 j l[j] c (List.getElem?_eq_getElem hlt) hj).length
  have HK := Lib.hid hK
  have HI := Lib.hid hI
  have HV := Lib.hid hV
  have HF := Lib.hid hF
  have HND := Lib.hid hnd
  have HZL := Lib.hid hZl
  have HZO := Lib.hid hZok
  have HZG := Lib.hid hZg
  have HZ := Lib.hid hZ
  have HFL := Lib.hid hflat
  have HN := Lib.hid hn0
  have HCL := Lib.hid hcl2
  have HCL3 := Lib.hid hcl3
  have HLL := Lib.hid hl
  have HKO := Lib.hid hk
  have HP0 : Hid (Blk (w.alloc (.cells (vC 0 false 0 ⟨#[]⟩ (.slice none 0 0) (.slice none 0 0)).toArray 42)) w.heap.size (vC 0 false 0 ⟨#[]⟩ (.slice none 0 0) (.slice none 0 0)) 42) := Lib.hid (Blk.new w _ _)
  clear hK hI hV hF hk hnd hcl hcl2 hcl3 hZ hZok hZg hZl hflat hn0 hl
  go_enter Tryz.func67, Tryz.ntmps67
  go_wp2_with fail
  rw [← vC_arr]
  obtain ⟨w1, hw1⟩ : ∃ x, x = w.alloc (.cells (vC 0 false 0 ⟨#[]⟩ (.slice none 0 0) (.slice none 0 0)).toArray 42) := ⟨_, rfl⟩
  rw [← hw1] at HP0 ⊢
  have HG1 : Hid (Chg w w1 []) := by rw [hw1]; exact Lib.hid ((Chg.refl w []).alloc _)
  have hz1 : w1.heap.size = w.heap.size + 1 := by rw [hw1]; simp
  clear hw1
  go_loopw [5, 6] (fun v5 v6 wr => ∃ i : Nat, i ≤ n ∧ v6 = .int .i64 i ∧ LstK wr v5 191 7 i (mems (Z.take i)) ∧ Chg w1 wr [] ∧ (∀ g, v5.ownBlock = some g → w1.heap.size ≤ g)) (fun _ v6 _ => n - (intOf v6).toNat)
  case atStart => exact ⟨0, by omega, rfl, LstK.nil _ _ _, Chg.refl _ _, fun g hg => (by cases hg)⟩
  case round =>
    obtain ⟨wa, rfl⟩ : ∃ x, x = wr := ⟨_, rfl⟩
    obtain ⟨i, hi, rfl, hL, hg, ho⟩ := hrel
    have HL := Lib.hid hL
    have HG := Lib.hid hg
    have HO := Lib.hid ho
    clear hL hg ho
    by_cases hlt : i < n
    · obtain ⟨p, hp1, hp2, hp3⟩ := HZG.out i hlt
      have hmem := HZO.out p (List.mem_of_getElem? hp1)
      obtain ⟨kb, ko, rfl, hkcell⟩ := HK.out.get (i := i) (v := .string p.1) (by simp [strs, hp2])
      obtain ⟨ib, io, rfl, hicell⟩ := HI.out.base (by omega) (by decide)
      have hkx := (HG1.out.trans HG.out).keeps hkcell
      obtain ⟨_, so, fl, bi, tx, la, ln, lc, ka', kn, kc', ep⟩ := hmem
      have hcc : ∀ j v, p.2[j]? = some v → wa.cell? ⟨ib, io + i * 6 + j, none⟩ = some v := fun j v hv => by
        rw [Nat.add_assoc]
        exact (HG1.out.trans HG.out).keeps (hicell _ v (HFL.out i p.2 hp3 j v hv))
      rw [ep] at hcc
      have c0 := hcc 0 _ rfl
      have c1 := hcc 1 _ rfl
      have c2 := hcc 2 _ rfl
      have c3 := hcc 3 _ rfl
      have c4 := hcc 4 _ rfl
      have c5 := hcc 5 _ rfl
      rw [Nat.add_zero] at c0
      have HNX : Hid (mems (Z.take (i + 1)) = mems (Z.take i) ++ [.string p.1, .int .i64 so, .bool fl, .int .u64 bi, .string tx, .slice la ln lc, .slice ka' kn kc']) := by
        unfold Hid
        rw [List.take_add_one, hp1, mems_append]
        simp only [Option.toList_some, mems_cons, memC, ep, vC]
        simp [mems]
      clear hcc hicell hkcell ep hp1 hp2 hp3
      go_wp2_with fail
      go_region_law (first
        | (go_loud (refine step_appendK rfl _ _ _ rfl 191 zMem 7 104 (by decide) Tryz.underlying189 info_mem rfl u5 i (mems (Z.take i)) (by rfl) (by exact HL.out.kept (bs := []) (by (repeat (first | exact Chg.refl _ _ | with_reducible refine Chg.drewN ?_ _ | with_reducible refine Chg.drew ?_ | with_reducible refine Chg.alloc ?_ _ | with_reducible refine Chg.setCell ?_ _ _ (by simp) | with_reducible refine Chg.setCell ?_ _ _ (by simp; omega)))) (by simp)) wa.heap.size [.string p.1, .int .i64 so, .bool fl, .int .u64 bi, .string tx, .slice la ln lc, .slice ka' kn kc'] (by rfl) (by rfl) (by exact cells_new' _ _ _) (by intro u hu; simp only [List.mem_cons, List.not_mem_nil, or_false] at hu; rcases hu with rfl | rfl | rfl | rfl | rfl | rfl | rfl <;> rfl) (by omega) (by omega) ?_; intro g cap' w3 hL3 hC3 hG3; rw [← HNX.out] at hL3; have HL3 := Lib.hid hL3; have HC3 := Lib.hid hC3; have HG3 := Lib.hid hG3; clear hL3 hC3 hG3)))
      all_goals
        go_wp2_with fail
        go_roundw
        case rel =>
          have z1 := HG.out.size
          refine ⟨i + 1, by omega, by go_num, HL3.out, Chg.own (sv := .slice none 0 0) (by (repeat (first | exact HG.out | with_reducible refine Chg.drewN ?_ _ | with_reducible refine Chg.drew ?_ | with_reducible refine Chg.alloc ?_ _ | with_reducible refine Chg.setCell ?_ _ _ (by simp) | with_reducible refine Chg.setCell ?_ _ _ (by simp; omega)))) HC3.out (fun g hg => by cases hg) (fun g hg => .inr (HO.out g hg)), fun g' hg' => ?_⟩
          simp [Value.ownBlock] at hg'; subst hg'
          rcases HG3.out with h | h
          · exact HO.out _ h
          · simp at h; omega
        case measure => simp [intOf]; omega
    · obtain rfl : i = n := by omega
      have htake : Z.take i = Z := List.take_of_length_le (Nat.le_of_eq HZL.out)
      rw [htake] at HL
      clear htake
      obtain ⟨a5, c5, rfl, ha5⟩ := HL.out.form
      have hrow := HL.out.rowC (by rw [mems_length HZO.out, HZL.out])
      have hzn : (Z.map Prod.fst).Nodup := by rw [HZ.out, List.map_fst_zip (by have := HCL.out; have := HLL.out; omega)]; exact HND.out
      have HOrd : Hid (∀ w', Chg wa w' [] → Calls Tryz.prog 101 #[.slice a5 i c5] w' fun e w'' => (∃ v, e = .returned v ∧ RowC w'' v 7 i (mems (srt Prod.fst Z))) ∧ Chg w' w'' []) := fun w' hc => by
        have := r10_ordered i Z (.slice a5 i c5) w' (Nat.le_of_eq HZL.out) (by rw [HZL.out]; exact hrow.kept hc) HZO.out hzn (by have := HZL.out; omega)
        unfold OrderedPost at this
        rw [HZL.out] at this
        exact this
      obtain ⟨S, hS⟩ : ∃ S, S = srt Prod.fst Z := ⟨_, rfl⟩
      rw [← hS] at HOrd
      have hSl : S.length = i := by rw [hS, srt_length]; exact HZL.out
      have hSok : ∀ p ∈ S, MemOK p := fun p hp => by rw [hS] at hp; exact HZO.out p ((srt_mem Prod.fst).1 hp)
      have HS := Lib.hid hS
      have HSL := Lib.hid hSl
      have HSO := Lib.hid hSok
      clear hS hSl hSok hrow hzn ha5
      go_wp2_with (first | (go_at_call 101; refine (HOrd.out _ (by (repeat (first | exact Chg.refl _ _ | with_reducible refine Chg.drewN ?_ _ | with_reducible refine Chg.drew ?_ | with_reducible refine Chg.alloc ?_ _ | with_reducible refine Chg.setCell ?_ _ _ (by simp) | with_reducible refine Chg.setCell ?_ _ _ (by simp; omega))))).mono ?_; rintro e w3 ⟨⟨v3, rfl, hR3⟩, hg3⟩; obtain ⟨a6, c6, rfl, hc6, _⟩ := hR3.form; have HR3 := Lib.hid hR3; have HG3 := Lib.hid hg3; clear hR3 hg3))
      obtain ⟨w4, hw4⟩ : ∃ x, x = w3.alloc (.cells #[.int .i64 6, .bool false, .int .u64 0, .string ⟨#[]⟩, .slice none 0 0, .slice none 0 0] 42) := ⟨_, rfl⟩
      have HQ : Hid (Blk w4 w3.heap.size (vC 6 false 0 ⟨#[]⟩ (.slice none 0 0) (.slice none 0 0)) 42) := by rw [hw4]; exact Lib.hid (Blk.new w3 _ _)
      have HG4 : Hid (Chg w3 w4 []) := by rw [hw4]; exact Lib.hid ((Chg.refl w3 []).alloc _)
      have HG13 : Hid (Chg w1 w3 []) := Lib.hid (HG.out.trans HG3.out)
      have hq4 : w4.heap.size = w3.heap.size + 1 := by rw [hw4]; simp
      have hq1 : w1.heap.size ≤ w3.heap.size := HG13.out.size
      rw [← hw4]
      obtain ⟨q, hq⟩ : ∃ q, q = w3.heap.size := ⟨_, rfl⟩
      rw [← hq] at HQ hq4 hq1 ⊢
      have HQE := Lib.hid hq
      clear hw4 hq HOrd HL HO
      go_loopw [8] (fun v8 wr => ∃ (j : Nat) (sk' si' : Value), j ≤ i ∧ v8 = .int .i64 j ∧ Blk wr q (vC 6 false 0 ⟨#[]⟩ si' sk') 42 ∧ Lst wr sk' 9 (strs ((S.take j).map Prod.fst)) ∧ LstK wr si' 42 6 j ((S.take j).flatMap Prod.snd) ∧ Chg w3 wr [] ∧
          (∀ g, sk'.ownBlock = some g → q < g) ∧ (∀ g, si'.ownBlock = some g → q < g) ∧ (∀ g, sk'.ownBlock = some g → si'.ownBlock = some g → False)) (fun v8 _ => i - (intOf v8).toNat)
      case atStart => exact ⟨0, _, _, by omega, rfl, HQ.out, Lst.nil _ _, LstK.nil _ _ _, HG4.out, fun g hg => (by cases hg), fun g hg => (by cases hg), fun g hg => (by cases hg)⟩
      case round =>
        obtain ⟨wb, rfl⟩ : ∃ x, x = wr := ⟨_, rfl⟩
        obtain ⟨j, sk', si', hj, rfl, hB, hLk, hLi, hg, hok, hoi, hdis⟩ := hrel
        have HB := Lib.hid hB
        have HLk := Lib.hid hLk
        have HLi := Lib.hid hLi
        have HGb := Lib.hid hg
        have HOk := Lib.hid hok
        have HOi := Lib.hid hoi
        have HDi := Lib.hid hdis
        obtain ⟨xl, xf, x0, x1, x2, x3, x4, x5⟩ := hB.cells6
        obtain ⟨ska, skc, rfl, _⟩ := hLk.form
        obtain ⟨sia, sic, rfl, _⟩ := hLi.form
        have hkl : (strs ((S.take j).map Prod.fst)).length = j := by rw [strs_len, List.length_map, List.length_take, HSL.out]; omega
        rw [hkl] at HLk x5 HB HOk HDi
        have HKL := Lib.hid hkl
        clear hB hLk hLi hg hok hoi hdis hkl
        by_cases hlt : j < i
        · obtain ⟨p, hp⟩ : ∃ p, S[j]? = some p := ⟨_, List.getElem?_eq_getElem (by have := HSL.out; omega)⟩
          obtain ⟨hko, so, fl, bi, tx, la, ln, lc, ka', kn, kc', ep⟩ := HSO.out p (List.mem_of_getElem? hp)
          obtain ⟨b, o, rfl, hcell⟩ := HR3.out.base (by omega) (by decide)
          have hmc : ∀ v m, (memC p)[m]? = some v → (mems S)[j * 7 + m]? = some v := fun v m hv => by
            have h1 : (mems S).drop (j * 7) = mems (S.drop j) := mems_drop HSO.out j
            have h2 : S.drop j = p :: S.drop (j + 1) := by
              obtain ⟨a1, a2⟩ := List.getElem?_eq_some_iff.1 hp
              rw [List.drop_eq_getElem_cons a1, a2]
            rw [← List.getElem?_drop, h1, h2, mems_cons, List.getElem?_append_left (List.getElem?_eq_some_iff.1 hv).1]
            exact hv
          have hme : memC p = [.string p.1, .int .i64 so, .bool fl, .int .u64 bi, .string tx, .slice la ln lc, .slice ka' kn kc'] := by unfold memC; rw [ep]; rfl
          rw [hme] at hmc
          have hall : ∀ wx, Chg w3 wx [] → wx.cell? ⟨b, o + j * 7, none⟩ = some (.string p.1) ∧ wx.cell? ⟨b, o + j * 7 + 1, none⟩ = some (.int .i64 so) ∧ wx.cell? ⟨b, o + j * 7 + 1 + 1, none⟩ = some (.bool fl) ∧ wx.cell? ⟨b, o + j * 7 + 1 + 2, none⟩ = some (.int .u64 bi) ∧
              wx.cell? ⟨b, o + j * 7 + 1 + 3, none⟩ = some (.string tx) ∧ wx.cell? ⟨b, o + j * 7 + 1 + 4, none⟩ = some (.slice la ln lc) ∧ wx.cell? ⟨b, o + j * 7 + 1 + 5, none⟩ = some (.slice ka' kn kc') := fun wx hx => by
            simp only [Nat.add_assoc]
            exact ⟨hx.keeps (hcell _ _ (hmc _ 0 rfl)), hx.keeps (hcell _ _ (hmc _ 1 rfl)), hx.keeps (hcell _ _ (hmc _ 2 rfl)), hx.keeps (hcell _ _ (hmc _ 3 rfl)), hx.keeps (hcell _ _ (hmc _ 4 rfl)), hx.keeps (hcell _ _ (hmc _ 5 rfl)), hx.keeps (hcell _ _ (hmc _ 6 rfl))⟩
          have HALL := Lib.hid hall
          have HK1 : Hid (strs ((S.take (j + 1)).map Prod.fst) = strs ((S.take j).map Prod.fst) ++ [.string p.1]) := by unfold Hid; rw [List.take_add_one, hp]; simp [strs]
          have HI1 : Hid ((S.take (j + 1)).flatMap Prod.snd = (S.take j).flatMap Prod.snd ++ [.int .i64 so, .bool fl, .int .u64 bi, .string tx, .slice la ln lc, .slice ka' kn kc']) := by unfold Hid; rw [List.take_add_one, hp, List.flatMap_append]; simp [ep, vC]
          have y0 := (HALL.out wb HGb.out).1
          have HNK : Hid (q ∉ (Value.slice ska j skc).ownBlock.toList) := Lib.hid fun hm => by have := HOk.out q (by simpa using hm); omega
          have HNI : Hid (q ∉ (Value.slice sia j sic).ownBlock.toList) := Lib.hid fun hm => by have := HOi.out q (by simpa using hm); omega
          clear hall hme hmc hcell ep hp hko
          go_upto_region 11 with (fail)
          go_cut [36] from 30 to 55 (fun _ wx => ∃ g9 cap9, Blk wx q (vC 6 false 0 ⟨#[]⟩ (.slice sia j sic) (.slice (some ⟨g9, 0, none⟩) (j + 1) cap9)) 42 ∧ Lst wx (.slice (some ⟨g9, 0, none⟩) (j + 1) cap9) 9 (strs ((S.take (j + 1)).map Prod.fst)) ∧
            LstK wx (.slice sia j sic) 42 6 j ((S.take j).flatMap Prod.snd) ∧ Chg w3 wx [] ∧ q < g9 ∧ ((Value.slice sia j sic).ownBlock = some g9 → False))
          case first =>
            go_region_law (first
              | (go_loud (refine step_append1 rfl _ _ _ rfl 9 zstr 16 Tryz.underlying40 info_string rfl (.slice ska j skc) (strs ((S.take j).map Prod.fst)) (by rfl) (by exact HLk.out.kept (bs := []) (by (repeat (first | exact Chg.refl _ _ | with_reducible refine Chg.drewN ?_ _ | with_reducible refine Chg.drew ?_ | with_reducible refine Chg.alloc ?_ _ | with_reducible refine Chg.setCell ?_ _ _ (by simp) | with_reducible refine Chg.setCell ?_ _ _ (by simp; omega)))) (by simp)) wb.heap.size (.string p.1) (by rfl) (by exact cell_new (by simp) _ _) rfl (by rw [HKL.out]; omega) (by rw [HKL.out]; omega) ?_; rw [HKL.out]; intro g9 cap9 w9 hL9 hC9 hG9; have HB9 := Lib.hid ((HB.out.alloc (.cells #[.string p.1] 9)).drew.kept hC9 HNK.out); have e9 : w9.cell? ⟨q, 5, none⟩ = some (.slice ska j skc) := HB9.out.cell 5; have f9 : ∀ j, w9.frozen? ⟨q, j, none⟩ = false := (fun j => HB9.out.frozen j); have lb9 := HB9.out.lt; have HL9 := Lib.hid hL9; have HC9 := Lib.hid hC9; have HG9 := Lib.hid hG9; clear hL9 hC9 hG9)))
            all_goals (go_wp2_with fail; go_meet)
            all_goals
              have hz := HGb.out.size
              have hqb := HB.out.lt
              have hgq : q < g9 := by
                rcases HG9.out with h | h
                · exact HOk.out _ h
                · simp at h; omega
              have hC1 : Chg w3 w9 [] := Chg.own (sv := .slice none 0 0) (by (repeat (first | exact HGb.out | with_reducible refine Chg.drewN ?_ _ | with_reducible refine Chg.drew ?_ | with_reducible refine Chg.alloc ?_ _ | with_reducible refine Chg.setCell ?_ _ _ (by simp) | with_reducible refine Chg.setCell ?_ _ _ (by simp; omega)))) HC9.out (fun g hg => by cases hg) (fun g hg => .inr (by have := HOk.out g hg; have := HQE.out; omega))
              refine ⟨g9, cap9, (HB9.out.set 5 _).eq rfl, ?_, ?_, hC1.setCell _ _ (by simp only; have := HQE.out; omega), hgq, ?_⟩
              · rw [HK1.out]
                exact HL9.out.kept (bs := [q]) ((Chg.refl _ _).setCell _ _ (by simp)) (fun g' hg' hm => by simp [Value.ownBlock] at hg' hm; omega)
              · refine (((HLi.out.kept (bs := []) ((Chg.refl wb []).alloc (.cells #[.string p.1] 9)).drew (by simp)).kept HC9.out ?_).kept (bs := [q]) ((Chg.refl _ _).setCell _ _ (by simp)) ?_)
                · exact fun g' hg' hm => HDi.out g' (by simpa using hm) hg'
                · exact fun g' hg' hm => by have := HOi.out g' hg'; simp at hm; omega
              · intro h'
                have h2 := HLi.out.lt h'
                rcases HG9.out with h | h
                · exact HDi.out _ h h'
                · simp at h; omega
          case rest =>
            obtain ⟨g9, cap9, hB9, hL9, hLi9, hG9, hgq, hd9⟩ := hcut
            obtain ⟨yl, yf, y0', y1, y2, y3, y4, y5⟩ := hB9.cells6
            obtain ⟨m0, m1, m2, m3, m4, m5, m6⟩ := HALL.out wc hG9
            have HB9 := Lib.hid hB9
            have HL9 := Lib.hid hL9
            have HLi9 := Lib.hid hLi9
            have HG9 := Lib.hid hG9
            have HD9 := Lib.hid hd9
            clear hB9 hL9 hLi9 hG9 hd9 y0 x0 x1 x2 x3 x4 x5 xf xl
            go_upto_region 12 with (fail)
            go_region_law (first
              | (go_loud (refine step_appendK rfl _ _ _ rfl 42 zVal 6 88 (by decide) Tryz.underlying39 info_valz rfl (.slice sia j sic) j ((S.take j).flatMap Prod.snd) (by rfl) (by exact HLi9.out.kept (bs := []) (by (repeat (first | exact Chg.refl _ _ | with_reducible refine Chg.drewN ?_ _ | with_reducible refine Chg.drew ?_ | with_reducible refine Chg.alloc ?_ _ | with_reducible refine Chg.setCell ?_ _ _ (by simp) | with_reducible refine Chg.setCell ?_ _ _ (by simp; omega)))) (by simp)) wc.heap.size [.int .i64 so, .bool fl, .int .u64 bi, .string tx, .slice la ln lc, .slice ka' kn kc'] (by rfl) (by rfl) (by exact cells_new' _ _ _) (by intro u hu; simp only [List.mem_cons, List.not_mem_nil, or_false] at hu; rcases hu with rfl | rfl | rfl | rfl | rfl | rfl <;> rfl) (by omega) (by omega) ?_; intro g8 cap8 w8 hL8 hC8 hG8; have HB8 := Lib.hid ((HB9.out.alloc (.cells #[.int .i64 so, .bool fl, .int .u64 bi, .string tx, .slice la ln lc, .slice ka' kn kc'] 42)).drew.kept hC8 HNI.out); have e8 : w8.cell? ⟨q, 4, none⟩ = some (.slice sia j sic) := HB8.out.cell 4; have f8 : ∀ j, w8.frozen? ⟨q, j, none⟩ = false := (fun j => HB8.out.frozen j); have lb8 := HB8.out.lt; have HL8 := Lib.hid hL8; have HC8 := Lib.hid hC8; have HG8 := Lib.hid hG8; clear hL8 hC8 hG8)))
            all_goals
              go_wp2_with fail
              go_roundw
              case rel =>
                have hz := HGb.out.size
                have hz9 := HG9.out.size
                have hqe := HQE.out
                have hqb := HB9.out.lt
                have hC1 : Chg w3 w8 [] := Chg.own (sv := .slice none 0 0) (by (repeat (first | exact HG9.out | with_reducible refine Chg.drewN ?_ _ | with_reducible refine Chg.drew ?_ | with_reducible refine Chg.alloc ?_ _ | with_reducible refine Chg.setCell ?_ _ _ (by simp) | with_reducible refine Chg.setCell ?_ _ _ (by simp; omega)))) HC8.out (fun g hg => by cases hg) (fun g hg => .inr (by have := HOi.out g hg; omega))
                have hgq8 : q < g8 := by
                  rcases HG8.out with h | h
                  · exact HOi.out _ h
                  · simp at h; omega
                have hne : g8 ≠ g9 := by
                  intro he
                  rcases HG8.out with h | h
                  · exact HD9.out (he ▸ h)
                  · have := HL9.out.lt (g := g9) rfl
                    simp at h; omega
                refine ⟨j + 1, _, _, by omega, by go_num, (HB8.out.set 4 _).eq rfl, ?_, ?_, hC1.setCell _ _ (by simp only; omega), ?_, ?_, ?_⟩
                · refine (((HL9.out.kept (bs := []) ((Chg.refl wc []).alloc (.cells #[.int .i64 so, .bool fl, .int .u64 bi, .string tx, .slice la ln lc, .slice ka' kn kc'] 42)).drew (by simp)).kept HC8.out ?_).kept (bs := [q]) ((Chg.refl _ _).setCell _ _ (by simp)) ?_)
                  · intro g' hg' hm
                    simp [Value.ownBlock] at hg'; subst hg'
                    exact HD9.out (by simpa using hm)
                  · intro g' hg' hm
                    simp [Value.ownBlock] at hg' hm; omega
                · rw [HI1.out]
                  exact HL8.out.kept (bs := [q]) ((Chg.refl _ _).setCell _ _ (by simp)) (fun g' hg' hm => by simp [Value.ownBlock] at hg' hm; omega)
                · intro g' hg'; simp [Value.ownBlock] at hg'; omega
                · intro g' hg'; simp [Value.ownBlock] at hg'; omega
                · intro g' h1 h2; simp [Value.ownBlock] at h1 h2; omega
              case measure => simp [intOf]; omega
        · obtain rfl : j = i := by omega
          have htk : S.take j = S := List.take_of_length_le (Nat.le_of_eq HSL.out)
          rw [htk] at HLk HLi HKL
          have HPb : Hid (Blk wb w.heap.size (vC 0 false 0 ⟨#[]⟩ (.slice none 0 0) (.slice none 0 0)) 42) := Lib.hid ((HP0.out.kept HG13.out (by simp)).kept HGb.out (by simp))
          clear htk
          go_wp2_with (first
            | (refine wpList_store_blk rfl _ _ _ rfl w.heap.size (vC 6 false 0 ⟨#[]⟩ (.slice sia j sic) (.slice ska j skc)) (by rfl) (by rfl) _ _ HPb.out info_val rfl (by intro u hu; simp only [vC, List.mem_cons, List.not_mem_nil, or_false] at hu; rcases hu with rfl | rfl | rfl | rfl | rfl | rfl <;> rfl) ?_; intro w9 hz9 hB9 hC9))
          refine bodyPost_ret (results_blk rfl _ _ w.heap.size 42 (vC 6 false 0 ⟨#[]⟩ (.slice sia j sic) (.slice ska j skc)) _ rfl hB9 Tryz.underlying42 rfl info_val) rfl ?_
          have hHP := hC9
          have hz1' := hz1
          have hwb := HGb.out.size
          have hqe := HQE.out
          have hgw : Chg w w9 [] := ((HG1.out.trans HG13.out).trans HGb.out).step hC9 (fun i hi hlt => by simp at hi; omega)
          obtain ⟨F', hF'⟩ : ∃ F' : Nat → Prop, F' = fun k => F k ∨ (w.heap.size ≤ k ∧ k < w9.heap.size) := ⟨_, rfl⟩
          have hL9 := HLk.out.kept hC9 (fun g hg hm => by have := HOk.out g hg; simp at hm; omega)
          have hI9 := HLi.out.kept hC9 (fun g hg hm => by have := HOi.out g hg; simp at hm; omega)
          have hfst : S.map Prod.fst = sortK ks := by rw [HS.out, HZ.out]; exact srt_zip_fst (by have := HCL.out; have := HLL.out; omega)
          have hol : (objL ks l).length = j := by rw [objL_length]; exact HN.out.symm
          have hkl2 : (sortK ks).length = j := by rw [sortK_length]; exact HN.out.symm
          refine ⟨F', _, rfl, fun k hk => by rw [hF']; exact .inl hk, fun k hk hlt => ?_, fun k hk => ?_, ?_, hgw⟩
          · rw [hF'] at hk
            rcases hk with hk | hk
            · exact hk
            · omega
          · rw [hF'] at hk
            rcases hk with hk | hk
            · exact Nat.lt_of_lt_of_le (HF.out k hk) hgw.size
            · exact hk.2
          · unfold objT
            simp only [ValAt]
            refine ⟨sia, sic, ska, skc, S.flatMap Prod.snd, by rw [hol, hkl2]; rfl, by rw [hol, hkl2], ?_, ?_, ?_⟩
            · rw [hkl2, ← hfst]
              refine hL9.rowAt fun g hg => ?_
              rw [hF']
              have := HOk.out g hg
              have := hL9.lt hg
              exact .inr ⟨by omega, by omega⟩
            · refine hI9.rowN ?_ fun g hg => ?_
              · rw [snd_length HSO.out, HSL.out]
              · rw [hF']
                have := HOi.out g hg
                have := hI9.lt hg
                exact .inr ⟨by omega, by omega⟩
            · rw [← mems_snd]
              refine ValsAt.ofChunks (by rw [List.length_map, HSL.out, hol]) fun x t c h1 h2 => ?_
              obtain ⟨s, hs⟩ : ∃ s, (sortK ks)[x]? = some s := ⟨_, List.getElem?_eq_getElem (by have := (List.getElem?_eq_some_iff.1 h1).1; omega)⟩
              obtain ⟨t', g1, g2⟩ := objL_get HLL.out hs
              rw [h1] at g2
              injection g2 with g2
              subst g2
              obtain ⟨c', k1, k2⟩ := srt_zip_get (cl := cl) HND.out (by have := HCL.out; have := HLL.out; omega) hs
              rw [← HZ.out, ← HS.out] at k2
              rw [List.getElem?_map, k2] at h2
              injection h2 with h2
              subst h2
              exact ValAt.kept (hgw.keepsF HF.out (by simp)) (fun k hk => by rw [hF']; exact .inl hk) _ _ (HCL3.out _ _ _ g1 k1)
end Go.Proofs.YtfdhgakalojahaaGreatDoor

namespace Go.Proofs.YtfdhgakalojahaaGreatDoor
open Go Go.RowKit Tree

mutual
def GoodT : Tr → Prop
  | .num b => NumOK b
  | .text s => Utf.rightB s = true ∧ s.size ≤ 2097152
  | .list l => GoodL l
  | .obj ks l => KeysOK ks ∧ ks.length = l.length ∧ GoodL l
  | _ => True
def GoodL : List Tr → Prop
  | [] => True
  | t :: l => GoodT t ∧ GoodL l
end

theorem goodL_iff {l : List Tr} : GoodL l ↔ ∀ t ∈ l, GoodT t := by
  induction l with
  | nil => simp [GoodL]
  | cons t l ih => simp only [GoodL, ih, List.mem_cons, forall_eq_or_imp]

theorem normB_norm (n : Nat) : normB (normB n) = normB n := by
  unfold normB
  by_cases h : Fl.rung n = 0
  · rw [if_pos h]; rfl
  · rw [if_neg h, if_neg h]

theorem numOK_norm {n : Nat} (h1 : n < 18446744073709551616) (h2 : Fl.finB n = true) : NumOK (normB n) := by
  refine ⟨?_, ?_, normB_norm n⟩
  · unfold normB; split <;> omega
  · unfold normB; split
    · rfl
    · exact h2

theorem sortK_nodup {ks : List ByteArray} (h : ks.Nodup) : (sortK ks).Nodup := (nodup_sortK ks).2 h

theorem keysOK_sort {ks : List ByteArray} (hr : ∀ k ∈ ks, Utf.rightB k = true) (hs : ∀ k ∈ ks, k.size ≤ 2147483648) (hn : ks.length ≤ 65536) (hnd : ks.Nodup) : KeysOK (sortK ks) := by
  refine ⟨fun s hs => hr s (sortK_mem.1 hs), fun s h => hs s (sortK_mem.1 h), ?_, by rw [sortK_length]; omega⟩
  refine ((srt_pairwise (fun s => s) ks).and (sortK_nodup hnd)).imp fun {a b} h => ?_
  have h1 := (leK_iff (fun s => s)).1 h.1
  have h2 : Utf.cmpR a b ≠ 0 := fun e => h.2 (Utf.cmpR_eq e)
  omega

theorem good_made {s : StepI} {l : List Tr} (hb : StepB s) (hl : ∀ t ∈ l, GoodT t) (hn : l.length ≤ 65536) (hf : fitS s l = true) : GoodT (madeOf s l) := by
  unfold fitS at hf
  simp only [Bool.and_eq_true, decide_eq_true_eq] at hf
  obtain ⟨⟨hok, hno⟩, hw⟩ := hf
  obtain ⟨hu, hfin, htx, hky, hnd⟩ := okS_iff.1 hok
  have hus := used_iff hu
  have hd : ∀ t ∈ l.drop (l.length - nOf s), GoodT t := fun t ht => hl t (List.mem_of_mem_drop ht)
  unfold madeOf treeOf at hw ⊢
  split
  · simp [GoodT]
  · split
    · simp [GoodT]
    · split
      · simp only [GoodT]; exact numOK_norm hb.bits (hfin (by assumption))
      · split
        · rename_i g1 g2 g3 g4
          rw [if_neg g1, if_neg g2, if_neg g3, if_pos g4] at hw
          simp only [GoodT]
          refine ⟨htx, ?_⟩
          have := (within_le hw).2.1
          simpa [szT] using this
        · split
          · simp only [GoodT]; exact goodL_iff.2 hd
          · rename_i g5
            have h7 : s.count = 0 := Decidable.byContradiction fun g => g5 (hus.2.2.2.2.2.2.1 g)
            have h8 : s.keys.length = (l.drop (l.length - nOf s)).length := by rw [List.length_drop]; unfold nOf at *; rw [h7] at *; simp at *; omega
            unfold objT
            simp only [GoodT]
            refine ⟨keysOK_sort (List.all_eq_true.1 hky) hb.size (by rw [h8, List.length_drop]; omega) hnd, by rw [sortK_length, objL_length], goodL_iff.2 fun t ht => hd t ((objL_perm hnd h8).mem_iff.1 ht)⟩

theorem good_run {l : List StepI} (hb : ∀ s ∈ l, StepB s) : ∀ {row r : List Tr}, (∀ t ∈ row, GoodT t) → row.length + l.length ≤ 65536 → runT row l = some r → ∀ t ∈ r, GoodT t := by
  induction l with
  | nil => intro row r hg _ h; simp [runT] at h; subst h; exact hg
  | cons s l ih =>
    intro row r hg hn h
    simp only [runT] at h
    split at h
    · rename_i hf
      refine ih (fun x hx => hb x (by simp [hx])) (fun t ht => ?_) ?_ h
      · unfold doT at ht
        rcases List.mem_append.1 ht with h1 | h1
        · exact hg t (List.mem_of_mem_take h1)
        · simp at h1; subst h1; exact good_made (hb s (by simp)) hg (by simp at hn; omega) hf
      · have := doT_length (l := row) (s := s); simp at hn; omega
    · cases h

theorem good_build {l : List StepI} (hb : ∀ s ∈ l, StepB s) (hn : l.length ≤ 65536) {t : Tr} (h : buildT l = some t) : GoodT t := by
  unfold buildT at h
  split at h
  · rename_i r hr
    injection h with h
    subst h
    exact good_run hb (row := []) (fun t ht => by cases ht) (by simpa using hn) hr _ (by simp)
  · cases h
end Go.Proofs.YtfdhgakalojahaaGreatDoor

namespace Go.Proofs.YtfdhgakalojahaaGreatDoor
open Go Go.RowKit Tree

def cntI : Option Nat → Int
  | some k => k
  | none => -1

attribute [local irreducible] Ieee.Format.order

set_option maxRecDepth 100000 in
set_option maxHeartbeats 2000000 in
theorem r30_count (t : Tr) (F : Nat → Prop) (cs : List Value) (w : World) (hv : ValAt w F t cs) (hn : ∀ b, t = .num b → NumOK b) :
    Calls Tryz.prog 42 #[.agg cs.toArray] w fun e w' => e = .returned (.int .i64 (cntI (cntN t))) ∧ Chg w w' [] := by
  by_cases hnum : ∃ b, t = .num b
  · obtain ⟨b, rfl⟩ := hnum
    have hb := hn b rfl
    simp only [ValAt] at hv
    obtain ⟨la, lc, ka, kc, rfl⟩ := hv
    have hbc := hb.cases
    have h2 := run_frombits
    obtain ⟨w0, hw0⟩ : ∃ x, x = w.alloc (.cells (vC 3 false b noB (.slice la 0 lc) (.slice ka 0 kc)).toArray 42) := ⟨_, rfl⟩
    have HX : Hid (Blk w0 w.heap.size (vC 3 false b noB (.slice la 0 lc) (.slice ka 0 kc)) 42) := by rw [hw0]; exact Lib.hid (Blk.new _ _ _)
    have HG0 : Hid (Chg w w0 []) := by rw [hw0]; exact Lib.hid ((Chg.refl w []).alloc _)
    rw [vC_arr] at hw0 ⊢
    have HW := Lib.hid hw0
    obtain ⟨xl, xf, x0, x1, x2, x3, x4, x5⟩ := HX.out.cells6
    clear hw0
    by_cases hneg : 9223372036854775808 ≤ b
    · have h1 : (FloatKind.f64.format.order b 0 == some .lt) = true := order_neg hneg hb.1 hb.2.1 (by rcases hbc with h | h; omega; exact h.2)
      have hc : cntN (.num b) = none := by rw [cntN_num]; unfold maxT; rw [if_neg (by omega)]
      rw [hc]
      clear hc hneg hb hbc hn
      go_enter Tryz.func42, Tryz.ntmps42
      go_upto_region 1 with (fail)
      rw [← HW.out]
      go_wp2_with fail
      go_ret
      exact ⟨rfl, HG0.out⟩
    · have hbf : b < 9218868437227405312 := by rcases hbc with h | h; exact h; omega
      have h1 : (FloatKind.f64.format.order b 0 == some .lt) = false := by rw [show FloatKind.f64.format = Ieee.double from rfl, Fl.order_lt hbf (by decide)]; simp
      by_cases hmax : b ≤ maxT
      · have h3 : (FloatKind.f64.format.order b 4845873199050653695 == some .gt) = false := by rw [show FloatKind.f64.format = Ieee.double from rfl, Fl.order_gt hbf (by decide)]; unfold maxT at hmax; simp; omega
        have ht := Fl.tr_lt (show b ≤ 4845873199050653695 from hmax)
        have hwl := Fl.wd_lt ht
        have h4 : (FloatKind.f64.format.order b (Fl.wd (Fl.tr b)) != some .eq) = !decide (b = Fl.wd (Fl.tr b)) := by rw [show FloatKind.f64.format = Ieee.double from rfl, Fl.order_ne hbf hwl]
        have hcv : ∀ w, (Go.convert 65 3 (.float .f64 b)).run Tryz.prog w = .ok (.int .i64 (Fl.tr b)) w := fun w =>
          run_convert_float_int w _ _ .f64 .i64 _ _ (by rw [Tryz.underlying65]; rfl) Tryz.underlying3 (toIntVal_tr hmax)
        have hcn : cntN (.num b) = if Fl.wd (Fl.tr b) = b then some (Fl.tr b) else none := by
          rw [cntN_num]
          by_cases g : Fl.wd (Fl.tr b) = b
          · rw [if_pos g, if_pos ⟨hmax, g⟩]
          · rw [if_neg g, if_neg (fun h => g h.2)]
        have HFL := Lib.hid fun w => math_Floor b hmax w
        rw [hcn]
        obtain ⟨k, hk⟩ : ∃ k, k = Fl.tr b := ⟨_, rfl⟩
        obtain ⟨x, hx⟩ : ∃ x, x = Fl.wd k := ⟨_, rfl⟩
        rw [← hk] at h4 hcv HFL ⊢
        rw [← hx] at h4 HFL ⊢
        have HCC := Lib.hid hcv
        clear hk hx hcv hcn ht hwl hmax hbf hneg hb hbc hn
        by_cases hd : x = b
        · rw [if_pos hd]
          rw [decide_eq_true hd.symm] at h4
          simp only [Bool.not_true] at h4
          clear hd
          go_enter Tryz.func42, Tryz.ntmps42
          go_upto_region 1 with (fail)
          rw [← HW.out]
          go_wp2_with (first
            | (go_at_call 80; refine (HFL.out _).mono ?_; rintro e w1 ⟨rfl, rfl⟩)
            | simp only [HCC.out])
          go_ret
          exact ⟨rfl, HG0.out⟩
        · rw [if_neg hd]
          rw [decide_eq_false (fun h => hd h.symm)] at h4
          simp only [Bool.not_false] at h4
          clear hd
          go_enter Tryz.func42, Tryz.ntmps42
          go_upto_region 1 with (fail)
          rw [← HW.out]
          go_wp2_with (first
            | (go_at_call 80; refine (HFL.out _).mono ?_; rintro e w1 ⟨rfl, rfl⟩)
            | simp only [HCC.out])
          go_ret
          exact ⟨rfl, HG0.out⟩
      · have h3 : (FloatKind.f64.format.order b 4845873199050653695 == some .gt) = true := by rw [show FloatKind.f64.format = Ieee.double from rfl, Fl.order_gt hbf (by decide)]; unfold maxT at hmax; simp; omega
        have hc : cntN (.num b) = none := by rw [cntN_num]; rw [if_neg (fun h => hmax h.1)]
        rw [hc]
        clear hc hmax hbf hneg hb hbc hn
        go_enter Tryz.func42, Tryz.ntmps42
        go_upto_region 1 with (fail)
        rw [← HW.out]
        go_wp2_with fail
        go_ret
        exact ⟨rfl, HG0.out⟩
  · have hc : cntN t = none := by
      cases t with
      | num b => exact absurd ⟨b, rfl⟩ hnum
      | _ => rfl
    rw [hc]
    obtain ⟨la, lc, ka, kc, xs, rfl, _⟩ := hv.uni
    have h3 : ((headStep t).sort : Int) ≠ 3 := by
      cases t with
      | num b => exact absurd ⟨b, rfl⟩ hnum
      | _ => simp [headStep]
    obtain ⟨so, hso⟩ : ∃ x, x = ((headStep t).sort : Int) := ⟨_, rfl⟩
    rw [← hso] at h3 ⊢
    have d3 : (so == 3) = false := by simp [h3]
    obtain ⟨w0, hw0⟩ : ∃ x, x = w.alloc (.cells (vC so (headStep t).flag (headStep t).bits (headStep t).text (.slice la (itemsT t).length lc) (.slice ka (headStep t).keys.length kc)).toArray 42) := ⟨_, rfl⟩
    have HX : Hid (Blk w0 w.heap.size (vC so (headStep t).flag (headStep t).bits (headStep t).text (.slice la (itemsT t).length lc) (.slice ka (headStep t).keys.length kc)) 42) := by rw [hw0]; exact Lib.hid (Blk.new _ _ _)
    have HG0 : Hid (Chg w w0 []) := by rw [hw0]; exact Lib.hid ((Chg.refl w []).alloc _)
    rw [vC_arr] at hw0 ⊢
    have HW := Lib.hid hw0
    obtain ⟨xl, xf, x0, x1, x2, x3, x4, x5⟩ := HX.out.cells6
    clear hw0 hv hn hnum hc hso h3
    go_enter Tryz.func42, Tryz.ntmps42
    go_upto_region 1 with (fail)
    rw [← HW.out]
    go_wp2_with fail
    go_ret
    exact ⟨rfl, HG0.out⟩
end Go.Proofs.YtfdhgakalojahaaGreatDoor

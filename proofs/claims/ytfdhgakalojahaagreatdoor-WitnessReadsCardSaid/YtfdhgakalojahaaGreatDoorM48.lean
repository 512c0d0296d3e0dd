/- THE WORDS in which both Reads of one tree are compared. JOIN: what the program's Read and the reference's Read say of one good tree. WALKS: the law WitnessReads. -/
import Derived.Test.YtfdhgakalojahaaGreatDoorM44
import Derived.Test.YtfdhgakalojahaaGreatDoorM43
import Derived.Test.YtfdhgakalojahaaGreatDoorM46
import Derived.Test.YtfdhgakalojahaaGreatDoorM38
import Derived.Test.YtfdhgakalojahaaGreatDoorM45
import Derived.Test.YtfdhgakalojahaaGreatDoorM47
import Derived.BigQuiet
import Derived.Test.YtfdhgakalojahaaGreatDoorM07
import Derived.Test.YtfdhgakalojahaaGreatDoorM37
import Derived.Test.YtfdhgakalojahaaGreatDoorM42
import Derived.Test.YtfdhgakalojahaaGreatDoorM40
set_option linter.unusedSimpArgs false
set_option linter.unusedVariables false
set_option linter.unnecessarySimpa false
set_option linter.unusedSectionVars false
namespace Go.Proofs.YtfdhgakalojahaaGreatDoor
open Go Go.RowKit Tree

def R30Yes (o : ByteArray) (n m : Int) (rb : List UInt8) (w : World) (e : Ending) (w' : World) : Prop := e = .returned (.tuple #[.agg (hdL o n rb m).toArray, .string ⟨#[]⟩, .bool true]) ∧ Chg w w' []

/-- both Reads of one tree: either both find no head, at one place; or both find one head -/
def ReadsBoth (t : Tr) : Prop :=
  (∃ p, (∀ F tb w, Laid w → TreeAt w F tb t → (∀ k, F k → k < w.heap.size) → Calls Tryz.prog 9 #[.pointer (some ⟨tb, 0, none⟩)] w (ReadNo p w)) ∧
    (∀ F cs w, ValAt w F t cs → Calls Tryz.prog 14 #[.agg cs.toArray] w (R30No p w))) ∨
  (∃ (o : ByteArray) (n m : Nat) (rb : List UInt8), rb.length = 32 ∧ (∀ F tb w, Laid w → TreeAt w F tb t → (∀ k, F k → k < w.heap.size) → Calls Tryz.prog 9 #[.pointer (some ⟨tb, 0, none⟩)] w (ReadYes o n m rb w)) ∧
    (∀ F cs w, ValAt w F t cs → Calls Tryz.prog 14 #[.agg cs.toArray] w (R30Yes o n m rb w)))
end Go.Proofs.YtfdhgakalojahaaGreatDoor

namespace Go.Proofs.YtfdhgakalojahaaGreatDoor
open Go Go.RowKit Tree

theorem reads_none (t : Tr) (hk : keysT t = []) (h6 : (headStep t).sort ≠ 6) (hlen : (itemsT t).length ≤ 2147483648) : ReadsBoth t :=
  .inl ⟨⟨#[]⟩, fun F tb w hl hT hF => wit_Read_none F tb t w hl hT hF (by rw [hk]; exact keysOK_nil) (.inl (by rw [hk]; rfl)) hlen (fun h => by rw [hk] at h; exact absurd h.1 (by simp)),
    fun F cs w hv => r30_Read_sort t F cs w hv (.inl h6)⟩

theorem reads_both (t : Tr) (hg : GoodT t) (hlen : (itemsT t).length ≤ 2147483648) : ReadsBoth t := by
  cases t with
  | obj ks l =>
    simp only [GoodT] at hg
    obtain ⟨hk, hkl, hgl⟩ := hg
    have hlen' : l.length ≤ 2147483648 := hlen
    by_cases h4 : ks = keys4
    · subst h4
      match l, hkl with
      | [A, B, C, D], _ =>
        have hgd : GoodT A ∧ GoodT B ∧ GoodT C ∧ GoodT D := by
          simp only [GoodL] at hgl
          exact ⟨hgl.1, hgl.2.1, hgl.2.2.1, hgl.2.2.2.1⟩
        cases hb : headBad A B C D with
        | some p =>
          refine .inl ⟨p, fun F tb w hl hT hF => wit_Read_bad F tb A B C D p w hl hT hF hgd hb, fun F cs w hv => (r30_Read_four A B C D F cs w hv hgd).mono fun e w' h => ?_⟩
          unfold R30Four at h
          rw [hb] at h
          exact h
        | none =>
          obtain ⟨o, n, m, rb, hr, hm, hT', e1, e2, e3, e4⟩ := head_good hb
          refine .inr ⟨o, n, m, rb, hr, fun F tb w hl hT hF => wit_Read_head F tb o n m rb hr w hl hm (hT' ▸ hT) hF, fun F cs w hv => (r30_Read_four A B C D F cs w hv hgd).mono fun e w' h => ?_⟩
          unfold R30Four at h
          rw [hb] at h
          dsimp only at h
          rw [e1, e2, e3, e4] at h
          exact h
    · refine .inl ⟨⟨#[]⟩, fun F tb w hl hT hF => wit_Read_none F tb (.obj ks l) w hl hT hF hk (.inr hkl) hlen' (fun h => h4 (keys4_all hk ⟨h.1, h.2.1, h.2.2.1, h.2.2.2.1⟩ (hkl.trans h.2.2.2.2))), fun F cs w hv => ?_⟩
      by_cases hn : ks.length = 4
      · match ks, hn, h4, hv with
        | [k0, k1, k2, k3], _, h4, hv => exact r30_Read_keys k0 k1 k2 k3 l F cs w hv h4
      · exact r30_Read_sort (.obj ks l) F cs w hv (.inr hn)
  | _ => exact reads_none _ rfl (by simp [headStep]) hlen
end Go.Proofs.YtfdhgakalojahaaGreatDoor

namespace Go.Proofs.YtfdhgakalojahaaGreatDoor
open Go Go.RowKit Tree

theorem take_cells6 {xs ys : List Value} {i : Nat} (hl : ys.length = 6) (h : ∀ j v, ys[j]? = some v → xs[i * 6 + j]? = some v) : xs.take ((i + 1) * 6) = xs.take (i * 6) ++ ys := by
  rw [show (i + 1) * 6 = i * 6 + 6 from by omega, List.take_add]
  congr 1
  refine List.ext_getElem? fun j => ?_
  rw [List.getElem?_take, List.getElem?_drop]
  split
  · rename_i hj
    have hy : ys[j]? = some (ys[j]'(by omega)) := List.getElem?_eq_getElem (by omega)
    rw [hy, h j _ hy]
  · exact (List.getElem?_eq_none (by omega)).symm

theorem len_nodes : ∀ (l : List Tr), l.length ≤ (szL l).nodes
  | [] => by simp [szL]
  | t :: l => by
    have h1 := len_nodes l
    have h2 := nodes_pos t
    simp only [szL, Sz.add, List.length_cons]
    omega

theorem stepI_one (s : StepI) (a : Option Addr) (n c : Nat) : ∀ u ∈ stepI s (.slice a n c), u.oneCell' = true := by
  intro u hu
  simp only [stepI, List.mem_cons, List.not_mem_nil, or_false] at hu
  rcases hu with rfl | rfl | rfl | rfl | rfl | rfl <;> rfl

set_option maxRecDepth 200000 in
set_option maxHeartbeats 6000000 in
theorem law_reads (hboth : ∀ t, GoodT t → (itemsT t).length ≤ 2147483648 → ReadsBoth t) (l : List StepI) (sl : Value) (xs : List Value) (w : World) (hl : Laid w) (hR : RowC w sl 6 l.length xs) (hS : StepsR w l xs) (hw : ∀ s ∈ l, StepW s) (hlen : l.length ≤ 140737488355328) :
    Calls Tryz.prog 4 #[sl] w fun e w' => e = .returned (.bool true) ∧ Chg w w' [] := by
  obtain ⟨a, c, rfl, hac, hxl⟩ := hR.form
  have HR := Lib.hid hR
  have HS := Lib.hid hS
  have HW := Lib.hid hw
  have HLD := Lib.hid hl
  have HXL := Lib.hid hxl
  clear hR hS hw hl hxl
  go_enter Tryz.func4, Tryz.ntmps4
  go_wp2_with fail
  go_loopw [3, 4, 5] (fun v3 v4 v5 wr => ∃ (i n : Nat), i ≤ l.length ∧ v5 = .int .i64 i ∧ v3 = .int .i64 n ∧ n ≤ 1000000000000000 ∧ (n < 2147483648 → n = tot (l.take i)) ∧ LstK wr v4 50 6 i (xs.take (i * 6)) ∧ (∀ g, v4.ownBlock = some g → w.heap.size ≤ g) ∧ Chg w wr []) (fun _ _ v5 _ => l.length - (intOf v5).toNat)
  case atStart => exact ⟨0, 0, by omega, rfl, rfl, by omega, fun _ => by simp [tot], by simpa using LstK.nil _ _ _, fun g hg => (by cases hg), Chg.refl _ _⟩
  case round =>
    obtain ⟨wa, rfl⟩ : ∃ x, x = wr := ⟨_, rfl⟩
    obtain ⟨i, n, hi, rfl, rfl, hnb, hnt, hlk, hown, hg⟩ := hrel
    have HLK := Lib.hid hlk
    have HO := Lib.hid hown
    have HGa := Lib.hid hg
    have HNT := Lib.hid hnt
    obtain ⟨ra, rc, rfl, _⟩ := hlk.form
    have hcap := hlk.capLe.2
    clear hlk hown hg hnt
    by_cases hbig : 2147483648 ≤ n
    · have HBY := Lib.hid (beyond_yes n hbig)
      clear hbig
      go_wp2_with (first
        | (go_at_call 5; refine (HBY.out _).mono ?_; rintro e w1 ⟨rfl, hg1⟩; have HG1 := Lib.hid (HGa.out.trans hg1); clear hg1)
        | (go_at_call 5; refine (HBY.out _).mono ?_; rintro e w2 ⟨rfl, hg2⟩; have HG2 := Lib.hid (HG1.out.trans hg2); clear hg2))
      all_goals go_ret
      all_goals first
        | exact ⟨rfl, HG2.out⟩
        | exact ⟨rfl, HG1.out⟩
    · have hsm : n < 2147483648 := by omega
      have HBN := Lib.hid (beyond_no n hsm)
      by_cases hlt : i < l.length
      · obtain ⟨s, hs⟩ : ∃ s, l[i]? = some s := ⟨_, List.getElem?_eq_getElem hlt⟩
        have hsw := HW.out s (List.mem_of_getElem? hs)
        obtain ⟨b, o, rfl, hbase⟩ := HR.out.base (by omega) (by decide)
        obtain ⟨sk, hsk, hxs⟩ := HS.out.get i s hs
        obtain ⟨ka, kc, rfl, hkc, _⟩ := hsk.form
        have hcc : ∀ j v, (stepI s (.slice ka s.keys.length kc))[j]? = some v → wa.cell? ⟨b, o + i * 6 + j, none⟩ = some v := fun j v hv => by
          rw [Nat.add_assoc]
          exact HGa.out.keeps (hbase _ v (hxs j v hv))
        have HTK := Lib.hid (take_cells6 rfl hxs)
        have HCW : Hid (∀ j v, (stepI s (.slice ka s.keys.length kc))[j]? = some v → w.cell? ⟨b, o + i * 6 + j, none⟩ = some v) := Lib.hid fun j v hv => by
          rw [Nat.add_assoc]
          exact hbase _ v (hxs j v hv)
        have HCC := Lib.hid hcc
        have c3 := hcc 3 _ rfl
        have c5 := hcc 5 _ rfl
        have HSK := Lib.hid (hsk.kept HGa.out)
        have HTOT := Lib.hid (tot_take_succ hs)
        have hil : i ≤ n := by rw [HNT.out hsm]; have := tot_len (l.take i); rw [List.length_take] at this; omega
        have hnx := HNT.out hsm
        have HNX := Lib.hid hnx
        obtain ⟨K, hK⟩ : ∃ x, x = s.keys.length := ⟨_, rfl⟩
        obtain ⟨T, hT⟩ : ∃ x, x = s.text := ⟨_, rfl⟩
        have hKb := hsw.keys
        have hTb := hsw.text
        have HKS : Hid (∀ k ∈ s.keys, k.size ≤ 140737488355328) := Lib.hid hsw.size
        rw [← hK] at hKb c5
        rw [← hT] at hTb c3
        have HKT := Lib.hid (And.intro hK hT)
        clear hs hsw hbase hsk hxs hkc hcc hK hT hnx
        go_upto_region 6 with (first
          | (go_at_call 5; refine (HBN.out _).mono ?_; rintro e w1 ⟨rfl, hg1⟩; have d3 := hg1.keeps c3; have d5 := hg1.keeps c5; have HG1 := Lib.hid hg1; clear hg1 c3 c5))
        go_quiet (fail)
        obtain ⟨n1, hn1⟩ : ∃ x : Nat, x = n + (1 + T.size + K) := ⟨_, rfl⟩
        rw [show (n : Int) + (1 + T.size + K) = (n1 : Int) from by omega]
        have hn1b : n1 ≤ 500000000000000 := by omega
        have HN1 := Lib.hid hn1
        clear hn1
        go_wp2_with fail
        go_loopw [3, 6] (fun v3 v6 wx => ∃ (k m : Nat), k ≤ K ∧ v6 = .int .i64 k ∧ v3 = .int .i64 m ∧ m = n1 + bytesOf (s.keys.take k) ∧ m ≤ 900000000000000 ∧ Chg wa wx []) (fun _ v6 _ => K - (intOf v6).toNat)
        case atStart => exact ⟨0, n1, by omega, rfl, rfl, by simp [bytesOf], by omega, by (repeat (first | exact HG1.out | with_reducible refine Chg.drewN ?_ _ | with_reducible refine Chg.drew ?_ | with_reducible refine Chg.alloc ?_ _ | with_reducible refine Chg.setCell ?_ _ _ (by simp) | with_reducible refine Chg.setCell ?_ _ _ (by simp; omega)))⟩
        case round =>
          obtain ⟨wb, rfl⟩ : ∃ x, x = wr := ⟨_, rfl⟩
          obtain ⟨k, m, hk, rfl, rfl, hm, hmb, hgx⟩ := hrel
          have HGX := Lib.hid hgx
          have HM := Lib.hid hm
          have c0 := hgx.keeps (HCC.out 0 _ rfl)
          have c1 := hgx.keeps (HCC.out 1 _ rfl)
          have c2 := hgx.keeps (HCC.out 2 _ rfl)
          have c3 := hgx.keeps (HCC.out 3 _ rfl)
          have c4 := hgx.keeps (HCC.out 4 _ rfl)
          have c5 := hgx.keeps (HCC.out 5 _ rfl)
          rw [Nat.add_zero] at c0
          have hKK := HKT.out.1
          rw [← hKK] at c5
          clear hgx hm d3 d5 hKK
          by_cases hkK : k < K
          · obtain ⟨key, hkey⟩ : ∃ key, s.keys[k]? = some key := ⟨_, List.getElem?_eq_getElem (by rw [← HKT.out.1]; exact hkK)⟩
            by_cases hmbig : 2147483648 ≤ m
            · have HBM := Lib.hid (beyond_yes m hmbig)
              have HBG := Lib.hid hmbig
              clear hmbig hkey
              go_upto_region 11 with (first
                | (go_at_call 5; refine (HBM.out _).mono ?_; rintro e wc ⟨rfl, hg2⟩; have HGC := Lib.hid (HGX.out.trans hg2); have e0 := hg2.keeps c0; have e1 := hg2.keeps c1; have e2 := hg2.keeps c2; have e3 := hg2.keeps c3; have e4 := hg2.keeps c4; have e5 := hg2.keeps c5; clear hg2 HGX c0 c1 c2 c3 c4 c5; have HGX := HGC; clear HGC))
              rw [HKT.out.1] at e5 ⊢
              go_region_held3 (fun w' => w'.cell? ⟨b, o + i * 6, none⟩ = some (.int .i64 s.sort) ∧ w'.cell? ⟨b, o + i * 6 + 1, none⟩ = some (.bool s.flag) ∧ w'.cell? ⟨b, o + i * 6 + 2, none⟩ = some (.int .u64 s.bits) ∧ w'.cell? ⟨b, o + i * 6 + 3, none⟩ = some (.string s.text) ∧ w'.cell? ⟨b, o + i * 6 + 4, none⟩ = some (.int .i64 s.count) ∧ w'.cell? ⟨b, o + i * 6 + 5, none⟩ = some (.slice ka s.keys.length kc))
                (first | exact ⟨e0, e1, e2, e3, e4, e5⟩ | exact ⟨hz3.keeps (HCW.out 0 _ rfl), hz3.keeps (HCW.out 1 _ rfl), hz3.keeps (HCW.out 2 _ rfl), hz3.keeps (HCW.out 3 _ rfl), hz3.keeps (HCW.out 4 _ rfl), hz3.keeps (HCW.out 5 _ rfl)⟩ | exact (fun h : Chg wc _ [] => ⟨h.keeps e0, h.keeps e1, h.keeps e2, h.keeps e3, h.keeps e4, h.keeps e5⟩) (by (repeat (first | exact Chg.refl wc [] | with_reducible refine Chg.drewN ?_ _ | with_reducible refine Chg.drew ?_ | with_reducible refine Chg.alloc ?_ _ | with_reducible refine Chg.setCell ?_ _ _ (by simp) | with_reducible refine Chg.setCell ?_ _ _ (by simp; omega)))))
                (first
                  | (go_loud (refine step_appendK rfl _ _ _ rfl 50 zRStep 6 72 (by decide) Tryz.underlying45 info_rstep rfl (.slice ra i rc) i (xs.take (i * 6)) (by rfl) (by exact HLK.out.kept (bs := []) (by (repeat (first | exact HGX.out | with_reducible refine Chg.drewN ?_ _ | with_reducible refine Chg.drew ?_ | with_reducible refine Chg.alloc ?_ _ | with_reducible refine Chg.setCell ?_ _ _ (by simp) | with_reducible refine Chg.setCell ?_ _ _ (by simp; omega)))) (by simp)) wc.heap.size (stepI s (.slice ka s.keys.length kc)) (by rfl) (by rfl) (by exact cells_new' _ _ _) (stepI_one _ _ _ _) (by omega) (by omega) ?_; rw [← HTK.out]; intro g cap' w3 hL3 hC3 hG3; have HL3 := Lib.hid hL3; have HC3 := Lib.hid hC3; have HG3 := Lib.hid hG3; have hz3 : Chg w w3 [] := Chg.own (sv := .slice none 0 0) (by (repeat (first | exact (HGa.out.trans HGX.out) | with_reducible refine Chg.drewN ?_ _ | with_reducible refine Chg.drew ?_ | with_reducible refine Chg.alloc ?_ _ | with_reducible refine Chg.setCell ?_ _ _ (by simp) | with_reducible refine Chg.setCell ?_ _ _ (by simp; omega)))) HC3.out (fun g hg => by cases hg) (fun g hg => .inr (HO.out g hg)); clear hL3 hC3 hG3)))
              all_goals
                go_wp2_with fail
                go_roundw
                case rel =>
                  have z1 := HGa.out.size
                  have z2 := HGX.out.size
                  refine ⟨i + 1, m, by omega, by go_num, rfl, by omega, fun h => absurd HBG.out (by omega), HL3.out, fun g' hg' => ?_, Chg.own (sv := .slice none 0 0) (by (repeat (first | exact (HGa.out.trans HGX.out) | with_reducible refine Chg.drewN ?_ _ | with_reducible refine Chg.drew ?_ | with_reducible refine Chg.alloc ?_ _ | with_reducible refine Chg.setCell ?_ _ _ (by simp) | with_reducible refine Chg.setCell ?_ _ _ (by simp; omega)))) HC3.out (fun g hg => by cases hg) (fun g hg => .inr (HO.out g hg))⟩
                  simp [Value.ownBlock] at hg'; subst hg'
                  rcases HG3.out with h | h
                  · exact HO.out _ h
                  · simp at h; omega
                case measure => simp [intOf]; omega
            · have hmsm : m < 2147483648 := by omega
              have HBM := Lib.hid (beyond_no m hmsm)
              have hks := HKS.out key (List.mem_of_getElem? hkey)
              have hbt := bytesOf_take_succ hkey
              have HBT := Lib.hid hbt
              obtain ⟨kb, ko, rfl, hkc⟩ := HSK.out.get (i := k) (v := .string key) (by unfold strs; rw [List.getElem?_map, hkey]; rfl)
              have ck := HGX.out.keeps hkc
              clear hkc hkey hbt hmbig
              go_wp2_with (first
                | (go_at_call 5; refine (HBM.out _).mono ?_; rintro e wc ⟨rfl, hg2⟩; have d5 := hg2.keeps c5; have dk := hg2.keeps ck; have HGC := Lib.hid (HGX.out.trans hg2); clear hg2 c5 ck))
              go_roundw
              case rel => exact ⟨k + 1, m + key.size, by omega, by go_num, by go_num, by rw [HBT.out]; have := HM.out; omega, by omega, HGC.out⟩
              case measure => simp [intOf]; omega
          · obtain rfl : k = K := by omega
            have hmeq : m = tot (l.take (i + 1)) := by
              have h1 := HM.out
              have h2 := HN1.out
              have h3 := HKT.out
              rw [HTOT.out, ← HNX.out, h1, h2, List.take_of_length_le (by omega)]
              unfold totS
              rw [← h3.1, ← h3.2]
              omega
            have HMEQ := Lib.hid hmeq
            clear hmeq
            go_upto_region 11 with (fail)
            rw [HKT.out.1] at c5 ⊢
            go_region_held3 (fun w' => w'.cell? ⟨b, o + i * 6, none⟩ = some (.int .i64 s.sort) ∧ w'.cell? ⟨b, o + i * 6 + 1, none⟩ = some (.bool s.flag) ∧ w'.cell? ⟨b, o + i * 6 + 2, none⟩ = some (.int .u64 s.bits) ∧ w'.cell? ⟨b, o + i * 6 + 3, none⟩ = some (.string s.text) ∧ w'.cell? ⟨b, o + i * 6 + 4, none⟩ = some (.int .i64 s.count) ∧ w'.cell? ⟨b, o + i * 6 + 5, none⟩ = some (.slice ka s.keys.length kc))
              (first | exact ⟨c0, c1, c2, c3, c4, c5⟩ | exact ⟨hz3.keeps (HCW.out 0 _ rfl), hz3.keeps (HCW.out 1 _ rfl), hz3.keeps (HCW.out 2 _ rfl), hz3.keeps (HCW.out 3 _ rfl), hz3.keeps (HCW.out 4 _ rfl), hz3.keeps (HCW.out 5 _ rfl)⟩ | exact (fun h : Chg wb _ [] => ⟨h.keeps c0, h.keeps c1, h.keeps c2, h.keeps c3, h.keeps c4, h.keeps c5⟩) (by (repeat (first | exact Chg.refl wb [] | with_reducible refine Chg.drewN ?_ _ | with_reducible refine Chg.drew ?_ | with_reducible refine Chg.alloc ?_ _ | with_reducible refine Chg.setCell ?_ _ _ (by simp) | with_reducible refine Chg.setCell ?_ _ _ (by simp; omega)))))
              (first
                | (go_loud (refine step_appendK rfl _ _ _ rfl 50 zRStep 6 72 (by decide) Tryz.underlying45 info_rstep rfl (.slice ra i rc) i (xs.take (i * 6)) (by rfl) (by exact HLK.out.kept (bs := []) (by (repeat (first | exact HGX.out | with_reducible refine Chg.drewN ?_ _ | with_reducible refine Chg.drew ?_ | with_reducible refine Chg.alloc ?_ _ | with_reducible refine Chg.setCell ?_ _ _ (by simp) | with_reducible refine Chg.setCell ?_ _ _ (by simp; omega)))) (by simp)) wb.heap.size (stepI s (.slice ka s.keys.length kc)) (by rfl) (by rfl) (by exact cells_new' _ _ _) (stepI_one _ _ _ _) (by omega) (by omega) ?_; rw [← HTK.out]; intro g cap' w3 hL3 hC3 hG3; have HL3 := Lib.hid hL3; have HC3 := Lib.hid hC3; have HG3 := Lib.hid hG3; have hz3 : Chg w w3 [] := Chg.own (sv := .slice none 0 0) (by (repeat (first | exact (HGa.out.trans HGX.out) | with_reducible refine Chg.drewN ?_ _ | with_reducible refine Chg.drew ?_ | with_reducible refine Chg.alloc ?_ _ | with_reducible refine Chg.setCell ?_ _ _ (by simp) | with_reducible refine Chg.setCell ?_ _ _ (by simp; omega)))) HC3.out (fun g hg => by cases hg) (fun g hg => .inr (HO.out g hg)); clear hL3 hC3 hG3)))
            all_goals
              go_wp2_with fail
              go_roundw
              case rel =>
                have z1 := HGa.out.size
                have z2 := HGX.out.size
                refine ⟨i + 1, m, by omega, by go_num, rfl, by omega, fun _ => HMEQ.out, HL3.out, fun g' hg' => ?_, Chg.own (sv := .slice none 0 0) (by (repeat (first | exact (HGa.out.trans HGX.out) | with_reducible refine Chg.drewN ?_ _ | with_reducible refine Chg.drew ?_ | with_reducible refine Chg.alloc ?_ _ | with_reducible refine Chg.setCell ?_ _ _ (by simp) | with_reducible refine Chg.setCell ?_ _ _ (by simp; omega)))) HC3.out (fun g hg => by cases hg) (fun g hg => .inr (HO.out g hg))⟩
                simp [Value.ownBlock] at hg'; subst hg'
                rcases HG3.out with h | h
                · exact HO.out _ h
                · simp at h; omega
              case measure => simp [intOf]; omega
      · obtain rfl : i = l.length := by omega
        have htk : l.take l.length = l := List.take_of_length_le (Nat.le_refl _)
        have htot : tot l < 2147483648 := by have := HNT.out hsm; rw [htk] at this; omega
        have hsb := stepB_of HW.out htot
        have hll : l.length ≤ 4294967296 := by have := tot_len l; omega
        have hxt : xs.take (l.length * 6) = xs := List.take_of_length_le (by rw [HXL.out]; exact Nat.le_refl _)
        have hrw : RowC wa (.slice ra l.length rc) 6 l.length xs := by have h := HLK.out; rw [hxt] at h; exact h.rowC HXL.out
        have HB1 : Hid (∀ wx, Chg wa wx [] → Calls Tryz.prog 12 #[.slice ra l.length rc] wx (RBuildPost l wx)) := Lib.hid fun wx hx => r10_Build l _ xs wx (hrw.kept hx) (StepsR.kept (HGa.out.trans hx) HS.out) hsb hll
        have HB2 : Hid (∀ wx, Chg w wx [] → Calls Tryz.prog 13 #[.slice a l.length c] wx (NBuildPost l wx)) := Lib.hid fun wx hx => node_Build l _ xs wx (HR.out.kept hx) (StepsR.kept hx HS.out) hsb hll
        have HSB := Lib.hid hsb
        clear htk htot hsb hll hxt hrw HR HS HW hi hlt hcap HLK HO HNT hnb hac
        cases hB : (if l.length ≤ 65536 then buildT l else none) with
        | none =>
          have HBN' := Lib.hid hB
          clear hB
          go_upto_region 15 with (first
            | (go_at_call 5; refine (HBN.out _).mono ?_; rintro e w1 ⟨rfl, hg1⟩; have HG1 := Lib.hid hg1; clear hg1)
            | (go_at_call 12; refine (HB1.out _ (by (repeat (first | exact HG1.out | with_reducible refine Chg.drewN ?_ _ | with_reducible refine Chg.drew ?_ | with_reducible refine Chg.alloc ?_ _ | with_reducible refine Chg.setCell ?_ _ _ (by simp) | with_reducible refine Chg.setCell ?_ _ _ (by simp; omega))))).mono ?_; intro e w2 hP; unfold RBuildPost at hP; rw [HBN'.out] at hP; obtain ⟨⟨k, ax, hk, rfl⟩, hg2⟩ := hP; have HG2 := Lib.hid (HG1.out.trans hg2); clear hg2)
            | (refine wpList_store_blk rfl _ _ _ rfl w2.heap.size zV rfl rfl 42 zV (Blk.new w2 zV _) info_val rfl (by intro u hu; simp only [zV, List.mem_cons, List.not_mem_nil, or_false] at hu; rcases hu with rfl | rfl | rfl | rfl | rfl | rfl <;> rfl) ?_; intro w3 hz3 hB3 hg3))
          have hg3' : Chg w2 w3 [] := ((Chg.refl w2 []).alloc _).fresh hg3 (by simp)
          have HG3 := Lib.hid (HG2.out.trans hg3')
          have dk : ((k : Int) != 0) = true := by rw [bne_iff_ne]; exact hk
          clear hz3 hB3 hg3 hg3' hk
          go_wp2_with (first
            | (go_at_call 13; refine (HB2.out _ (by (repeat (first | exact (HGa.out.trans HG3.out) | with_reducible refine Chg.drewN ?_ _ | with_reducible refine Chg.drew ?_ | with_reducible refine Chg.alloc ?_ _ | with_reducible refine Chg.setCell ?_ _ _ (by simp) | with_reducible refine Chg.setCell ?_ _ _ (by simp; omega))))).mono ?_; intro e w4 hP; unfold NBuildPost at hP; rw [HBN'.out] at hP; obtain ⟨⟨ti, x, rfl⟩, hg4⟩ := hP; have HG4 := Lib.hid ((HGa.out.trans HG3.out).trans hg4); clear hg4))
          go_ret
          exact ⟨rfl, HG4.out⟩
        | some t =>
          have hle : l.length ≤ 65536 := by
            by_cases h : l.length ≤ 65536
            · exact h
            · rw [if_neg h] at hB; cases hB
          have hgd : GoodT t := by rw [if_pos hle] at hB; exact good_build HSB.out hle hB
          have HGD := Lib.hid hgd
          have HBN' := Lib.hid hB
          have hle' : ¬ ((65536 : Int) < (l.length : Int)) := by omega
          clear hB hgd hle
          go_upto_region 15 with (first
            | (go_at_call 5; refine (HBN.out _).mono ?_; rintro e w1 ⟨rfl, hg1⟩; have HG1 := Lib.hid hg1; clear hg1)
            | (go_at_call 12; refine (HB1.out _ (by (repeat (first | exact HG1.out | with_reducible refine Chg.drewN ?_ _ | with_reducible refine Chg.drew ?_ | with_reducible refine Chg.alloc ?_ _ | with_reducible refine Chg.setCell ?_ _ _ (by simp) | with_reducible refine Chg.setCell ?_ _ _ (by simp; omega))))).mono ?_; intro e w2 hP; unfold RBuildPost at hP; rw [HBN'.out] at hP; obtain ⟨⟨F, cs, rfl, hV, hF, hwi⟩, hg2⟩ := hP; have HG2 := Lib.hid (HG1.out.trans hg2); have HCI : (Tryz.prog.info? 42).map (·.size) = some cs.length := (by rw [hV.length]; exact info_val); clear hg2)
            | (refine wpList_store_blk rfl _ _ _ rfl w2.heap.size cs rfl rfl 42 zV (Blk.new w2 zV _) HCI (by rw [hV.length]; rfl) hV.ones ?_; intro w3 hz3 hB3 hg3))
          obtain ⟨X, hX⟩ : ∃ x, x = w2.heap.size := ⟨_, rfl⟩
          have hg3' : Chg w2 w3 [] := ((Chg.refl w2 []).alloc _).fresh hg3 (by simp)
          have HG3 := Lib.hid (HG2.out.trans hg3')
          have HV3 := Lib.hid (ValAt.kept (hg3'.keepsF hF (by simp)) (fun _ h => h) _ _ hV)
          have HF3 : Hid (∀ b, F b → b < w3.heap.size) := Lib.hid (fun b hb => Nat.lt_of_lt_of_le (hF b hb) hg3'.size)
          have hil : (itemsT t).length ≤ 2147483648 := by
            have h1 := nodes_items' t
            have h2 := len_nodes (itemsT t)
            unfold Sz.within at hwi
            simp only [Bool.and_eq_true, decide_eq_true_eq] at hwi
            omega
          have HRB := Lib.hid (hboth t HGD.out hil)
          rw [← hX] at hB3 ⊢
          have HX3 := Lib.hid hB3
          clear hz3 hB3 hg3 hg3' hX hV hF hwi hil
          go_upto_region 20 with (first
            | (go_at_call 13; refine (HB2.out _ (by (repeat (first | exact (HGa.out.trans HG3.out) | with_reducible refine Chg.drewN ?_ _ | with_reducible refine Chg.drew ?_ | with_reducible refine Chg.alloc ?_ _ | with_reducible refine Chg.setCell ?_ _ _ (by simp) | with_reducible refine Chg.setCell ?_ _ _ (by simp; omega))))).mono ?_; intro e w4 hP; unfold NBuildPost at hP; rw [HBN'.out] at hP; obtain ⟨⟨F2, tb, rfl, hT, hF2, -⟩, hg4⟩ := hP; have HG4 := Lib.hid ((HGa.out.trans HG3.out).trans hg4); have HX4 := Lib.hid (HX3.out.kept hg4 (by simp)); have HV4 := Lib.hid (ValAt.kept (hg4.keepsF HF3.out (by simp)) (fun _ h => h) _ _ HV3.out); have HF4 : Hid (∀ b, F b → b < w4.heap.size) := Lib.hid (fun b hb => Nat.lt_of_lt_of_le (HF3.out b hb) hg4.size); have HT := Lib.hid hT; have HF2 := Lib.hid hF2; clear hg4 hT hF2))
          have HLD4 := Lib.hid (Laid.kept _ _ HLD.out HG4.out)
          clear HB1 HB2 HBN HBN' HSB HX3 HV3 HF3 HG1 HG2 HG3 HGa hle'
          rcases HRB.out with ⟨p, h1, h2⟩ | ⟨o, n', m', rb, hr, h1, h2⟩
          · have HN1 := Lib.hid h1
            have HN2 := Lib.hid h2
            have HEQ : ∀ w, (binOp .eql 25 (.agg zer35.toArray) (.agg zer35.toArray)).run Tryz.prog w = .ok (.bool true) w := head_eql _ _ _ _ rfl
            clear h1 h2
            go_upto_region 21 with (first
              | (go_at_call 9; refine (HN1.out F2 tb w4 HLD4.out HT.out HF2.out).mono ?_; rintro e w5 ⟨rfl, hg5⟩; have HG5 := Lib.hid (HG4.out.trans hg5); have HX5 := Lib.hid (HX4.out.kept hg5 (by simp)); have HV5 := Lib.hid (ValAt.kept (hg5.keepsF HF4.out (by simp)) (fun _ h => h) _ _ HV4.out); have HF5 : Hid (∀ b, F b → b < w5.heap.size) := Lib.hid (fun b hb => Nat.lt_of_lt_of_le (HF4.out b hb) hg5.size); clear hg5)
              | (refine wpList_store_blk rfl _ _ _ rfl w5.heap.size zer35 rfl rfl 25 zer35 (Blk.new w5 zer35 _) (info_hd35 _ _ _ _ rfl) rfl (hdL_one _ _ _ _) ?_; intro w6 hz6 hB6 hg6))
            obtain ⟨D, hD⟩ : ∃ x, x = w5.heap.size := ⟨_, rfl⟩
            have hg6' : Chg w5 w6 [] := ((Chg.refl w5 []).alloc _).fresh hg6 (by simp)
            have HG6 := Lib.hid (HG5.out.trans hg6')
            have HX6 := Lib.hid (HX5.out.kept hg6' (by simp))
            have HV6 := Lib.hid (ValAt.kept (hg6'.keepsF HF5.out (by simp)) (fun _ h => h) _ _ HV5.out)
            rw [← hD] at hB6 ⊢
            have HD6 := Lib.hid hB6
            clear hz6 hB6 hg6 hg6' hD HX4 HX5 HV4 HV5 HF4 HF5 HG4 HG5 HLD4 HT HF2
            go_upto_region 22 with (first
              | (refine wpList_load_blk rfl _ _ rfl X rfl 42 cs HX6.out _ Tryz.underlying42 rfl HCI ?_)
              | (go_at_call 14; refine (HN2.out F cs w6 HV6.out).mono ?_; rintro e w7 ⟨rfl, hg7⟩; have HG7 := Lib.hid (HG6.out.trans hg7); have HD7 := Lib.hid (HD6.out.kept hg7 (by simp)); clear hg7)
              | (refine wpList_store_blk rfl _ _ _ rfl w7.heap.size zer35 rfl rfl 25 zer35 (Blk.new w7 zer35 _) (info_hd35 _ _ _ _ rfl) rfl (hdL_one _ _ _ _) ?_; intro w8 hz8 hB8 hg8))
            have hg8' : Chg w7 w8 [] := ((Chg.refl w7 []).alloc _).fresh hg8 (by simp)
            have HG8 := Lib.hid (HG7.out.trans hg8')
            have HD8 := Lib.hid (HD7.out.kept hg8' (by simp))
            clear hz8 hB8 hg8 hg8' HX6 HV6 HD6 HG6
            unfold trailV
            go_wp2_with (first
              | (refine wpList_load_blk rfl _ _ rfl D rfl 25 zer35 HD8.out _ Tryz.underlying25 rfl (info_hd35 _ _ _ _ rfl) ?_)
              | (refine wpList_run (.agg zer35.toArray) (Op.build 25 #[]) rfl rfl (by kernel_rfl) ?_)
              | (go_at_call 15; refine (law_tells_trail p _).mono ?_; rintro e w9 ⟨rfl, hg9⟩))
            go_ret
            exact ⟨rfl, HG8.out.trans hg9⟩
          · have HN1 := Lib.hid h1
            have HN2 := Lib.hid h2
            have HRR := Lib.hid hr
            have HEQ : ∀ w, (binOp .eql 25 (.agg (hdL o n' rb m').toArray) (.agg (hdL o n' rb m').toArray)).run Tryz.prog w = .ok (.bool true) w := head_eql o n' m' rb hr
            have hu := Tryz.underlying25
            have hi := info_hd35 o n' rb m' hr
            have hln : zer35.length = (hdL o n' rb m').length := by rw [hdL_length, hr]; rfl
            clear h1 h2 hr
            go_upto_region 21 with (first
              | (go_at_call 9; refine (HN1.out F2 tb w4 HLD4.out HT.out HF2.out).mono ?_; rintro e w5 ⟨rfl, hg5⟩; have HG5 := Lib.hid (HG4.out.trans hg5); have HX5 := Lib.hid (HX4.out.kept hg5 (by simp)); have HV5 := Lib.hid (ValAt.kept (hg5.keepsF HF4.out (by simp)) (fun _ h => h) _ _ HV4.out); have HF5 : Hid (∀ b, F b → b < w5.heap.size) := Lib.hid (fun b hb => Nat.lt_of_lt_of_le (HF4.out b hb) hg5.size); clear hg5)
              | (refine wpList_store_blk rfl _ _ _ rfl w5.heap.size (hdL o n' rb m') rfl rfl 25 zer35 (Blk.new w5 zer35 _) hi hln (hdL_one _ _ _ _) ?_; intro w6 hz6 hB6 hg6))
            obtain ⟨D, hD⟩ : ∃ x, x = w5.heap.size := ⟨_, rfl⟩
            have hg6' : Chg w5 w6 [] := ((Chg.refl w5 []).alloc _).fresh hg6 (by simp)
            have HG6 := Lib.hid (HG5.out.trans hg6')
            have HX6 := Lib.hid (HX5.out.kept hg6' (by simp))
            have HV6 := Lib.hid (ValAt.kept (hg6'.keepsF HF5.out (by simp)) (fun _ h => h) _ _ HV5.out)
            rw [← hD] at hB6 ⊢
            have HD6 := Lib.hid hB6
            clear hz6 hB6 hg6 hg6' hD HX4 HX5 HV4 HV5 HF4 HF5 HG4 HG5 HLD4 HT HF2
            go_upto_region 22 with (first
              | (refine wpList_load_blk rfl _ _ rfl X rfl 42 cs HX6.out _ Tryz.underlying42 rfl HCI ?_)
              | (go_at_call 14; refine (HN2.out F cs w6 HV6.out).mono ?_; rintro e w7 ⟨rfl, hg7⟩; have HG7 := Lib.hid (HG6.out.trans hg7); have HD7 := Lib.hid (HD6.out.kept hg7 (by simp)); clear hg7)
              | (refine wpList_store_blk rfl _ _ _ rfl w7.heap.size (hdL o n' rb m') rfl rfl 25 zer35 (Blk.new w7 zer35 _) hi hln (hdL_one _ _ _ _) ?_; intro w8 hz8 hB8 hg8))
            obtain ⟨E, hE⟩ : ∃ x, x = w7.heap.size := ⟨_, rfl⟩
            have hg8' : Chg w7 w8 [] := ((Chg.refl w7 []).alloc _).fresh hg8 (by simp)
            have HG8 := Lib.hid (HG7.out.trans hg8')
            have HD8 := Lib.hid (HD7.out.kept hg8' (by simp))
            rw [← hE] at hB8 ⊢
            have HE8 := Lib.hid hB8
            clear hz8 hB8 hg8 hg8' hE HX6 HV6 HD6 HG6
            go_wp2_with (first
              | (refine wpList_load_midG 25 _ rfl D 0 rfl (hdL o n' rb m') _ HD8.out.range hu rfl hi (by rfl) ?_)
              | (refine wpList_load_midG 25 _ rfl E 0 rfl (hdL o n' rb m') _ HE8.out.range hu rfl hi (by rfl) ?_))
            go_ret
            exact ⟨rfl, HG8.out⟩
end Go.Proofs.YtfdhgakalojahaaGreatDoor

/- WALKS: the reference's layer 3: two right texts held against each other. WALKS: the reference's small looks at a step: finite, right. -/
import Derived.Test.YtfdhgakalojahaaGreatDoorM30
import Derived.Deep.RegionHeld3
import Derived.Laws.Bits64b
import Derived.Test.YtfdhgakalojahaaGreatDoorM06
import Derived.Test.YtfdhgakalojahaaGreatDoorM05
import Derived.Test.YtfdhgakalojahaaGreatDoorM29
import Derived.Test.YtfdhgakalojahaaGreatDoorM04
set_option linter.unusedSimpArgs false
set_option linter.unusedVariables false
set_option linter.unnecessarySimpa false
set_option linter.unusedSectionVars false
namespace Go.Proofs.YtfdhgakalojahaaGreatDoor
open Go Go.RowKit

theorem u16_cell {w : World} {a : Option Addr} {n c : Nat} {U : List Nat} (h : Lst w (.slice a n c) 242 (u16s U)) {i x : Nat} (hx : U[i]? = some x) : ∃ g, a = some ⟨g, 0, none⟩ ∧ w.cell? ⟨g, i, none⟩ = some (.int .u16 x) := by
  obtain ⟨a', c', e', ha'⟩ := h.form
  injection e' with e1 _ e3
  subst e1
  obtain ⟨g1, rfl⟩ := ha' (by intro h0; have h1 := congrArg List.length h0; simp [u16s] at h1; subst h1; simp at hx)
  exact ⟨g1, rfl, h.cell rfl i _ (by simp [u16s, hx])⟩

theorem unitsT_len {s : ByteArray} (h : Utf.rightB s = true) : (Utf.unitsT s).length ≤ 2 * s.size := by
  obtain ⟨m, hm, hb, _⟩ := Utf.right_runes h
  have hml : m.length ≤ s.size := by have := runes_len hm; simpa using this
  have hut : Utf.unitsT s = m.flatMap Utf.unitsR := by unfold Utf.unitsT; rw [hm]; simp [List.flatMap_map]
  rw [hut]
  have := units_len m
  omega

theorem drop_get {U : List Nat} {i : Nat} {x : Nat} (h : U[i]? = some x) : U.drop i = x :: U.drop (i + 1) := by
  obtain ⟨h1, h2⟩ := List.getElem?_eq_some_iff.1 h
  rw [List.drop_eq_getElem_cons h1, h2]

set_option maxRecDepth 100000 in
set_option maxHeartbeats 2000000 in
theorem r3_Compare (a b : ByteArray) (w : World) (ha : a.size ≤ 2147483648) (hb : b.size ≤ 2147483648) (ra : Utf.rightB a = true) (rb : Utf.rightB b = true) :
    Calls Tryz.prog 126 #[.string a, .string b] w fun e w' => e = .returned (.int .i64 (Utf.cmpR a b)) ∧ Chg w w' [] := by
  have hcmp := Utf.units_cmp ra rb
  have hul := unitsT_len ra
  have hvl := unitsT_len rb
  have HRA := Lib.hid ra
  have HRB := Lib.hid rb
  have HMA : Hid (∀ w, Calls Tryz.prog 47 #[.string a] w fun e w' => e = .returned (.bool true) ∧ w = w') := fun w => by have := r3_Right a w ha; rw [ra] at this; exact this
  have HMB : Hid (∀ w, Calls Tryz.prog 47 #[.string b] w fun e w' => e = .returned (.bool true) ∧ w = w') := fun w => by have := r3_Right b w hb; rw [rb] at this; exact this
  have HUA := Lib.hid fun w => r3_Units a w ha ra
  have HUB := Lib.hid fun w => r3_Units b w hb rb
  obtain ⟨U, hU⟩ : ∃ x, x = Utf.unitsT a := ⟨_, rfl⟩
  obtain ⟨V, hV⟩ : ∃ x, x = Utf.unitsT b := ⟨_, rfl⟩
  rw [← hU] at hcmp hul HUA
  rw [← hV] at hcmp hvl HUB
  have HC := Lib.hid hcmp
  have hUL : U.length ≤ 4294967296 := by omega
  have hVL : V.length ≤ 4294967296 := by omega
  clear hcmp hU hV ra rb hul hvl
  have HUL : Hid ((u16s U).length = U.length) := by unfold Hid u16s; simp
  have HVL : Hid ((u16s V).length = V.length) := by unfold Hid u16s; simp
  go_enter Tryz.func126, Tryz.ntmps126
  go_wp2_with (first
    | (go_at_call_of 47 (Value.string a); refine (HMA.out _).mono ?_; rintro e w1 ⟨rfl, rfl⟩)
    | (go_at_call 47; refine (HMB.out _).mono ?_; rintro e w1 ⟨rfl, rfl⟩)
    | (go_at_call_of 141 (Value.string a); refine (HUA.out _).mono ?_; rintro e w1 ⟨⟨v1, rfl, hL1, ho1⟩, hg1⟩; obtain ⟨a1, c1, rfl, _⟩ := hL1.form; rw [HUL.out] at hL1 ho1 ⊢; have HL1 := Lib.hid hL1; have HG1 := Lib.hid hg1; clear hL1 ho1 hg1)
    | (go_at_call 141; refine (HUB.out _).mono ?_; rintro e w2 ⟨⟨v2, rfl, hL2, ho2⟩, hg2⟩; obtain ⟨a2, c2, rfl, _⟩ := hL2.form; rw [HVL.out] at hL2 ho2 ⊢; have HL2 := Lib.hid hL2; have HG2 := Lib.hid hg2; have HL12 := Lib.hid (HL1.out.kept hg2 (by simp)); clear hL2 ho2 hg2))
  have HGW := Lib.hid (HG1.out.trans HG2.out)
  go_loopw [9] (fun v9 wr => ∃ i : Nat, i ≤ U.length ∧ i ≤ V.length ∧ v9 = .int .i64 i ∧ Chg w2 wr [] ∧ Utf.lex (U.drop i) (V.drop i) = Utf.cmpR a b) (fun v9 _ => U.length - (intOf v9).toNat)
  case atStart => exact ⟨0, by omega, by omega, rfl, Chg.refl _ _, HC.out⟩
  case round =>
    obtain ⟨i, h1, h2, rfl, hg, he⟩ := hrel
    have HG := Lib.hid hg
    clear hg
    have HE := Lib.hid he
    clear he
    by_cases hlt : i < U.length
    · obtain ⟨x, hx⟩ : ∃ x, U[i]? = some x := ⟨_, List.getElem?_eq_getElem hlt⟩
      obtain ⟨g1, rfl, cx⟩ := u16_cell (HL12.out.kept HG.out (by simp)) hx
      by_cases hlt2 : i < V.length
      · obtain ⟨y, hy⟩ : ∃ y, V[i]? = some y := ⟨_, List.getElem?_eq_getElem hlt2⟩
        obtain ⟨g2, rfl, cy⟩ := u16_cell (HL2.out.kept HG.out (by simp)) hy
        have hd := HE.out
        rw [drop_get hx, drop_get hy, Utf.lex] at hd
        clear hx hy
        rcases Nat.lt_trichotomy x y with h | h | h
        · rw [if_neg (by omega), if_pos h] at hd
          have HD := Lib.hid hd
          clear hd
          go_wp2
          all_goals (try (go_quiet (fail); go_wp2))
          go_ret
          exact ⟨ret_int HD.out, HGW.out.trans (by (repeat (first | exact HG.out | with_reducible refine Chg.drewN ?_ _ | with_reducible refine Chg.drew ?_ | with_reducible refine Chg.alloc ?_ _ | with_reducible refine Chg.setCell ?_ _ _ (by simp) | with_reducible refine Chg.setCell ?_ _ _ (by simp; omega))))⟩
        · subst h
          rw [if_pos rfl] at hd
          have HD := Lib.hid hd
          clear hd
          go_wp2
          all_goals (try (go_quiet (fail); go_wp2))
          all_goals (try (go_quiet (fail); go_wp2))
          go_roundw
          case rel => exact ⟨i + 1, by omega, by omega, by go_num, by (repeat (first | exact HG.out | with_reducible refine Chg.drewN ?_ _ | with_reducible refine Chg.drew ?_ | with_reducible refine Chg.alloc ?_ _ | with_reducible refine Chg.setCell ?_ _ _ (by simp) | with_reducible refine Chg.setCell ?_ _ _ (by simp; omega))), HD.out⟩
          case measure => simp [intOf]; omega
        · rw [if_neg (by omega), if_neg (by omega)] at hd
          have HD := Lib.hid hd
          clear hd
          go_wp2
          all_goals (try (go_quiet (fail); go_wp2))
          all_goals (try (go_quiet (fail); go_wp2))
          go_ret
          exact ⟨ret_int HD.out, HGW.out.trans (by (repeat (first | exact HG.out | with_reducible refine Chg.drewN ?_ _ | with_reducible refine Chg.drew ?_ | with_reducible refine Chg.alloc ?_ _ | with_reducible refine Chg.setCell ?_ _ _ (by simp) | with_reducible refine Chg.setCell ?_ _ _ (by simp; omega))))⟩
      · have hd := HE.out
        rw [drop_get hx, List.drop_of_length_le (by omega : V.length ≤ i), Utf.lex] at hd
        have HD := Lib.hid hd
        clear hd hx
        go_wp2
        go_ret
        exact ⟨ret_int HD.out, HGW.out.trans (by (repeat (first | exact HG.out | with_reducible refine Chg.drewN ?_ _ | with_reducible refine Chg.drew ?_ | with_reducible refine Chg.alloc ?_ _ | with_reducible refine Chg.setCell ?_ _ _ (by simp) | with_reducible refine Chg.setCell ?_ _ _ (by simp; omega))))⟩
    · by_cases hlt2 : i < V.length
      · obtain ⟨y, hy⟩ : ∃ y, V[i]? = some y := ⟨_, List.getElem?_eq_getElem hlt2⟩
        have hd := HE.out
        rw [drop_get hy, List.drop_of_length_le (by omega : U.length ≤ i), Utf.lex] at hd
        have HD := Lib.hid hd
        clear hd hy
        go_wp2
        go_ret
        exact ⟨ret_int HD.out, HGW.out.trans (by (repeat (first | exact HG.out | with_reducible refine Chg.drewN ?_ _ | with_reducible refine Chg.drew ?_ | with_reducible refine Chg.alloc ?_ _ | with_reducible refine Chg.setCell ?_ _ _ (by simp) | with_reducible refine Chg.setCell ?_ _ _ (by simp; omega))))⟩
      · have hd := HE.out
        rw [List.drop_of_length_le (by omega : V.length ≤ i), List.drop_of_length_le (by omega : U.length ≤ i), Utf.lex] at hd
        have HD := Lib.hid hd
        clear hd
        go_wp2
        go_ret
        exact ⟨ret_int HD.out, HGW.out.trans (by (repeat (first | exact HG.out | with_reducible refine Chg.drewN ?_ _ | with_reducible refine Chg.drew ?_ | with_reducible refine Chg.alloc ?_ _ | with_reducible refine Chg.setCell ?_ _ _ (by simp) | with_reducible refine Chg.setCell ?_ _ _ (by simp; omega))))⟩
end Go.Proofs.YtfdhgakalojahaaGreatDoor

namespace Go.Proofs.YtfdhgakalojahaaGreatDoor
open Go Go.RowKit Tree

theorem r10_right (F : Nat → Prop) (sk : Value) (ks : List ByteArray) (w : World) (hk : RowAt w F sk (strs ks)) (hs : ∀ s ∈ ks, s.size ≤ 2147483648) (hn : ks.length ≤ 4294967296) :
    Calls Tryz.prog 65 #[sk] w fun e w' => e = .returned (.bool (ks.all Utf.rightB)) ∧ Chg w w' [] := by
  obtain ⟨a, c, rfl, hc⟩ := hk.cell
  have hkl : (strs ks).length = ks.length := by simp [strs]
  rw [hkl]
  have HC := Lib.hid hc
  have HS := Lib.hid hs
  clear hc hs hkl hk
  go_enter Tryz.func65, Tryz.ntmps65
  go_wp2_with fail
  go_loopw [3] (fun v3 wr => ∃ i : Nat, i ≤ ks.length ∧ v3 = .int .i64 i ∧ Chg w wr [] ∧ (ks.take i).all Utf.rightB = true) (fun v3 _ => ks.length - (intOf v3).toNat)
  case atStart => exact ⟨0, by omega, rfl, by (repeat (first | exact Chg.refl w [] | with_reducible refine Chg.drewN ?_ _ | with_reducible refine Chg.drew ?_ | with_reducible refine Chg.alloc ?_ _ | with_reducible refine Chg.setCell ?_ _ _ (by simp) | with_reducible refine Chg.setCell ?_ _ _ (by simp; omega))), rfl⟩
  case round =>
    obtain ⟨i, hi, rfl, hg, hr⟩ := hrel
    have HG := Lib.hid hg
    have HR := Lib.hid hr
    clear hg hr
    by_cases hlt : i < ks.length
    · obtain ⟨s, hs⟩ : ∃ s, ks[i]? = some s := ⟨_, List.getElem?_eq_getElem hlt⟩
      have hsm : s ∈ ks := List.mem_iff_getElem?.2 ⟨i, hs⟩
      obtain ⟨b, o, rfl, _, x1⟩ := HC.out i (.string s) (by simp [strs, hs])
      have y1 := HG.out.keeps x1
      have HW := Lib.hid (r3_Right s wr (HS.out s hsm))
      have HI := Lib.hid hs
      by_cases hr : Utf.rightB s = true
      · rw [hr] at HW
        have HN : Hid ((ks.take (i + 1)).all Utf.rightB = true) := Lib.hid (by rw [List.take_add_one, hs, List.all_append, HR.out]; simp [hr])
        clear x1 hs hsm hr
        go_wp2_with fail
        refine HW.out.mono ?_
        rintro e w1 ⟨rfl, rfl⟩
        go_wp2_with fail
        go_roundw
        case rel => exact ⟨i + 1, by omega, by go_num, HG.out, HN.out⟩
        case measure => simp [intOf]; omega
      · have hr : Utf.rightB s = false := by simpa using hr
        rw [hr] at HW
        have HN : Hid (ks.all Utf.rightB = false) := Lib.hid (by
          rw [List.all_eq_false]; exact ⟨s, hsm, by simp [hr]⟩)
        clear x1 hs hsm hr
        go_wp2_with fail
        refine HW.out.mono ?_
        rintro e w1 ⟨rfl, rfl⟩
        go_wp2_with fail
        go_ret
        exact ⟨congrArg (fun b => Ending.returned (.bool b)) HN.out.symm, HG.out⟩
    · obtain rfl : i = ks.length := by omega
      rw [List.take_of_length_le (Nat.le_refl _)] at HR
      go_wp2_with fail
      go_ret
      exact ⟨congrArg (fun b => Ending.returned (.bool b)) HR.out.symm, HG.out⟩

theorem finB_bits (b : Nat) (hb : b < 18446744073709551616) : (bits .and .u64 ((b : Int) / 4503599627370496) 2047 != 2047) = Fl.finB b := by
  have h1 : ((b : Int) / 4503599627370496) = ((b / 4503599627370496 : Nat) : Int) := by omega
  have h2 : (2047 : Int) = ((2047 : Nat) : Int) := rfl
  rw [h1, h2, bits_and_u64_nat _ _ (by omega) (by decide), show (2047 : Nat) = 2 ^ 11 - 1 from rfl, Nat.and_two_pow_sub_one_eq_mod]
  unfold Fl.finB Fl.rung
  rw [Bool.eq_iff_iff]
  simp
  omega

theorem r10_finite (b : Nat) (hb : b < 18446744073709551616) (w : World) :
    Calls Tryz.prog 64 #[.int .u64 b] w fun e w' => e = .returned (.bool (Fl.finB b)) ∧ Chg w w' [] := by
  have HF := Lib.hid (finB_bits b hb)
  go_enter Tryz.func64, Tryz.ntmps64
  go_wp2
  go_ret
  exact ⟨ret_bool HF.out, Chg.refl _ _⟩
end Go.Proofs.YtfdhgakalojahaaGreatDoor

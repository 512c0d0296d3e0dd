/- WALKS: slices.SortFunc of texts by utf.Compare. -/
import Derived.Lib.OwnBridge
import Derived.Lib.AppendIntMem
import Derived.Test.YtfdhgakalojahaaGreatDoorM14
import Derived.Test.YtfdhgakalojahaaGreatDoorM22
import Derived.Test.YtfdhgakalojahaaGreatDoorM07
import Derived.Test.YtfdhgakalojahaaGreatDoorM01
import Derived.Test.YtfdhgakalojahaaGreatDoorM05
set_option linter.unusedSimpArgs false
set_option linter.unusedVariables false
set_option linter.unnecessarySimpa false
set_option linter.unusedSectionVars false
namespace Go.Proofs.YtfdhgakalojahaaGreatDoor
open Go Go.Shelf Go.RowKit Go.Lib Go.Sort Tree

/-- right texts of some size -/
def RT : Type := { s : ByteArray // Utf.rightB s = true ∧ s.size ≤ 2147483648 }

instance : Inhabited RT := ⟨⟨ByteArray.empty, by decide, by decide⟩⟩

def encR (x : RT) : Value := .string x.1
def cfR (x y : RT) : Int := Utf.cmpR x.1 y.1

theorem ltR (x y : RT) : ltOf cfR x y = decide (Utf.cmpR x.1 y.1 < 0) := rfl

theorem swoR : SWO (ltOf cfR) where
  irrefl x := by simp [ltR, Utf.cmpR_self]
  trans x y z h1 h2 := by
    simp only [ltR, decide_eq_true_eq] at *
    exact Utf.cmpR_trans h1 h2
  ntrans x y z h1 h2 := by
    simp only [ltR, decide_eq_false_iff_not] at *
    intro h3
    have n1 := Utf.cmpR_neg x.1 y.1
    have n2 := Utf.cmpR_neg y.1 z.1
    have n3 := Utf.cmpR_neg x.1 z.1
    by_cases e1 : Utf.cmpR x.1 y.1 = 0
    · have := Utf.cmpR_eq e1; rw [this] at h3; exact h2 h3
    · by_cases e2 : Utf.cmpR y.1 z.1 = 0
      · have := Utf.cmpR_eq e2; rw [← this] at h3; exact h1 h3
      · have := Utf.cmpR_trans (a := z.1) (b := y.1) (c := x.1) (by omega) (by omega)
        omega

theorem totR (x y : RT) (h1 : ltOf cfR x y = false) (h2 : ltOf cfR y x = false) : x = y := by
  simp only [ltR, decide_eq_false_iff_not] at *
  have n1 := Utf.cmpR_neg x.1 y.1
  exact Subtype.ext (Utf.cmpR_eq (by omega))

theorem Chg.grew {w w' : World} (h : Chg w w' []) : ∃ q os, w' = grow (w.drewN q) os := by
  refine ⟨w'.drawn - w.drawn, w'.heap.extract w.heap.size w'.heap.size, ?_⟩
  have hh : w'.heap = w.heap ++ w'.heap.extract w.heap.size w'.heap.size := by
    apply Array.ext_getElem?
    intro i
    by_cases hi : i < w.heap.size
    · rw [Array.getElem?_append_left hi]
      exact h.block i hi (by simp)
    · rw [Array.getElem?_append_right (by omega), Array.getElem?_extract]
      have := h.size
      by_cases h2 : i < w'.heap.size
      · rw [if_pos (by omega)]
        congr 1
        omega
      · rw [if_neg (by omega), Array.getElem?_eq_none (by omega)]
  have hd := h.drawn
  have h1 := h.os
  have h2 := h.tape
  have h3 := h.output
  cases w with
  | mk heap tape drawn os output =>
    cases w' with
    | mk heap' tape' drawn' os' output' =>
      simp only at *
      subst h1; subst h2; subst h3
      unfold grow World.drewN
      simp only
      rw [← hh]
      congr 1
      omega


theorem sort_lay (blk off size : Nat) (w : World) : CmpLays1 Tryz.prog 51 #[] encR cfR blk off size w := by
  intro m os dk _ x y
  refine (utf_Compare x.1 y.1 _ x.2.2 y.2.2 x.2.1 y.2.1).mono ?_
  rintro e w' ⟨rfl, hg⟩
  exact ⟨rfl, hg.grew⟩

theorem sort_some (g cap : Nat) (ks : List RT) (w : World) (hl : ks.length ≤ 4294967296) (hL : Lst w (.slice (some ⟨g, 0, none⟩) ks.length cap) 9 (ks.map encR)) :
    Calls Tryz.prog 107 #[.slice (some ⟨g, 0, none⟩) ks.length cap, .func (.func 51) #[] #[]] w fun e w' =>
      e = .returned (.tuple #[]) ∧ Lst w' (.slice (some ⟨g, 0, none⟩) ks.length cap) 9 ((ks.mergeSort fun x y => !(ltOf cfR) y x).map encR) ∧ Chg w w' [g] := by
  have eg : ∀ args w, (callFunc 51 args).run Tryz.prog w = .ok (.enter 51 args) w := enters_of Tryz.func51 (by kernel_rfl) rfl
  have hL' := hL
  unfold Lst at hL'
  rw [List.length_map] at hL'
  obtain ⟨g', cap', he, _, hg, _, _, _, hH⟩ := holds_of_ownsRow hL' (by simp)
  injection he with he _ hc
  injection he with he
  injection he with he
  subst he; subst hc
  have hS := Any.slices_SortFunc_total Tryz.sortL encR (fun _ => rfl) cfR swoR 51 #[] g 0 cap ks.toArray w eg (sort_lay g 0 _ w) hH hg (by simp; omega) totR
  rw [List.size_toArray] at hS
  change Calls Tryz.prog 107 _ _ _ at hS
  refine hS.mono ?_
  rintro e w' ⟨rfl, n, os, rfl⟩
  refine ⟨rfl, ?_, ?_⟩
  · have h1 := ownsRow_putRow (q := n) (k := ks.length) (ys := ks.mergeSort fun x y => !(ltOf cfR) y x) hL' (by simp) (Nat.le_refl _)
    have h2 := ownsRow_grow h1 0 os
    unfold Lst sortWorld
    rw [List.length_map, List.length_mergeSort]
    rw [List.take_of_length_le (by simp)] at h2
    exact h2
  · refine ⟨rfl, rfl, rfl, by simp [sortWorld, putRow, mapBlock, Sort.ahead], by simp [sortWorld, putRow, mapBlock, Sort.ahead, grow], fun k hk hn => ?_⟩
    unfold sortWorld
    rw [show (grow (putRow encR (Sort.ahead w n) g 0 (ks.mergeSort fun x y => !(ltOf cfR) y x).toArray) os).heap[k]? = (putRow encR (Sort.ahead w n) g 0 (ks.mergeSort fun x y => !(ltOf cfR) y x).toArray).heap[k]? from Array.getElem?_append_left (by simpa [putRow, mapBlock, Sort.ahead] using hk)]
    have : g ≠ k := fun e => hn (by simp [e])
    simp [putRow, mapBlock, Sort.ahead, Array.getElem?_modify, this]

def valR (x : RT) : ByteArray := x.1

theorem strs_valR (l : List RT) : strs (l.map valR) = l.map encR := by unfold strs encR valR; rw [List.map_map]; rfl

/-- rows of right texts -/
theorem exists_RT : ∀ (ks : List ByteArray), (∀ s ∈ ks, Utf.rightB s = true) → (∀ s ∈ ks, s.size ≤ 2147483648) → ∃ l : List RT, l.map valR = ks
  | [], _, _ => ⟨[], rfl⟩
  | s :: ks, h1, h2 => by
    obtain ⟨l, hl⟩ := exists_RT ks (fun t ht => h1 t (by simp [ht])) (fun t ht => h2 t (by simp [ht]))
    let x : RT := ⟨s, h1 s (by simp), h2 s (by simp)⟩
    exact ⟨x :: l, (List.map_cons (f := valR) (a := x) (l := l)).trans (by rw [hl]; rfl)⟩

theorem sortK_RT (l : List RT) : (l.mergeSort fun x y => !(ltOf cfR) y x).map valR = sortK (l.map valR) := by
  unfold sortK
  rw [List.map_mergeSort]
  intro a _ b _
  rfl

/-- what sorting leaves -/
def SortPost (ks : List ByteArray) (a : Option Addr) (cap : Nat) (w : World) (e : Ending) (w' : World) : Prop :=
  e = .returned (.tuple #[]) ∧ Lst w' (.slice a ks.length cap) 9 (strs (sortK ks)) ∧ Chg w w' (Value.slice a ks.length cap).ownBlock.toList

theorem sortFunc_any (ks : List ByteArray) (a : Option Addr) (cap : Nat) (w : World) (hr : ∀ s ∈ ks, Utf.rightB s = true) (hs : ∀ s ∈ ks, s.size ≤ 2147483648) (hl : ks.length ≤ 4294967296) (hL : Lst w (.slice a ks.length cap) 9 (strs ks)) :
    Calls Tryz.prog 107 #[.slice a ks.length cap, .func (.func 51) #[] #[]] w (SortPost ks a cap w) := by
  by_cases he : ks = []
  · subst he
    have := AnyF.slices_SortFunc_none Tryz.sortL0 a cap (.func (.func 51) #[] #[]) w
    change Calls Tryz.prog 107 _ _ _ at this
    refine this.mono ?_
    rintro e w' ⟨rfl, rfl⟩
    exact ⟨rfl, by simpa [sortK] using hL, Chg.refl _ _⟩
  · obtain ⟨l, rfl⟩ := exists_RT ks hr hs
    obtain ⟨a', cap', e', ha⟩ := hL.form
    injection e' with e1 _ e3
    subst e1; subst e3
    obtain ⟨g, rfl⟩ := ha (by simpa [strs] using he)
    rw [List.length_map] at hl hL ⊢
    refine (sort_some g cap l w hl (by rw [← strs_valR]; exact hL)).mono ?_
    rintro e w' ⟨rfl, h1, h2⟩
    refine ⟨rfl, ?_, by simpa [Value.ownBlock] using h2⟩
    rw [← sortK_RT, List.length_map]
    rw [strs_valR]
    exact h1
end Go.Proofs.YtfdhgakalojahaaGreatDoor

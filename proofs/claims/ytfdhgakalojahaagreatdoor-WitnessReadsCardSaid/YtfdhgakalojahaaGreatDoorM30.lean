/- WALKS: the program's layer 10: the value of a key. LAWS: slices of elements of several cells; steps as they lie in memory. LAWS: 'append' of the elements of another slice, wherever it begins; no program in sight. WALKS: the reference's layer 3: a right text's units. -/
import Derived.Deep.LoopGhost
import Derived.Test.YtfdhgakalojahaaGreatDoorM29
import Derived.Test.YtfdhgakalojahaaGreatDoorM05
import Derived.Test.YtfdhgakalojahaaGreatDoorM07
import Derived.Test.YtfdhgakalojahaaGreatDoorM08
import Derived.Test.YtfdhgakalojahaaGreatDoorM09
set_option linter.unusedSimpArgs false
set_option linter.unusedVariables false
set_option linter.unnecessarySimpa false
set_option linter.unusedSectionVars false
namespace Go.Proofs.YtfdhgakalojahaaGreatDoor
open Go Go.RowKit Tree

/-- keys that rise, right texts -/
structure KeysOK (ks : List ByteArray) : Prop where
  right : ∀ s ∈ ks, Utf.rightB s = true
  small : ∀ s ∈ ks, s.size ≤ 2147483648
  rise : ks.Pairwise fun a b => Utf.cmpR a b < 0
  many : ks.length ≤ 2147483648

theorem KeysOK.lt {ks : List ByteArray} (h : KeysOK ks) {i j : Nat} {a b : ByteArray} (hi : ks[i]? = some a) (hj : ks[j]? = some b) (hij : i < j) : Utf.cmpR a b < 0 := by
  obtain ⟨i1, rfl⟩ := List.getElem?_eq_some_iff.1 hi
  obtain ⟨j1, rfl⟩ := List.getElem?_eq_some_iff.1 hj
  exact List.pairwise_iff_getElem.1 h.rise i j i1 j1 hij

/-- where a key stands, if it stands there -/
def SearchPost (ks : List ByteArray) (key : ByteArray) (w : World) (e : Ending) (w' : World) : Prop :=
  ∃ (i : Nat) (ok : Bool), e = .returned (.tuple #[.int .i64 i, .bool ok]) ∧ Chg w w' [] ∧ (ok = true → ks[i]? = some key) ∧ (ok = false → key ∉ ks)

set_option maxRecDepth 100000 in
set_option maxHeartbeats 2000000 in
theorem search_keys (F : Nat → Prop) (sk : Value) (ks : List ByteArray) (key : ByteArray) (w : World) (hk : RowAt w F sk (strs ks)) (hF : ∀ k, F k → k < w.heap.size) (hok : KeysOK ks) (hr : Utf.rightB key = true) (hs : key.size ≤ 2147483648) :
    Calls Tryz.prog 49 #[sk, .string key, .func (.func 51) #[] #[]] w (SearchPost ks key w) := by
  obtain ⟨a, c, rfl, hcell⟩ := hk.cell
  have hkl : (strs ks).length = ks.length := by simp [strs]
  have hmany := hok.many
  have HC := Lib.hid hcell
  have HF := Lib.hid hF
  have HOK := Lib.hid hok
  have HR := Lib.hid hr
  clear hk hF hok hr hcell
  rw [hkl]
  clear hkl
  have HCR : Hid (∀ (wr : World), Chg w wr [] → ∀ (i : Nat) (s : ByteArray), ks[i]? = some s → ∃ b o, a = some ⟨b, o, none⟩ ∧ wr.cell? ⟨b, o + i, none⟩ = some (.string s)) := by
    intro wr hg i s hi
    obtain ⟨b, o, e1, e2, e3⟩ := HC.out i (.string s) (by simp [strs, hi])
    exact ⟨b, o, e1, hg.keeps e3⟩
  go_enter Tryz.func49, Tryz.ntmps49
  go_wp2
  go_loopg [9, 10] ks.length (fun kx s9 s10 wr => ∃ lo hi : Nat, s9 = .int .i64 lo ∧ s10 = .int .i64 hi ∧ lo ≤ hi ∧ hi ≤ ks.length ∧ hi - lo ≤ kx ∧ Chg w wr [] ∧
    (∀ t s, t < lo → ks[t]? = some s → Utf.cmpR s key < 0) ∧ (∀ t s, hi ≤ t → ks[t]? = some s → 0 ≤ Utf.cmpR s key))
  case atStart => exact ⟨0, ks.length, rfl, rfl, Nat.zero_le _, Nat.le_refl _, by omega, Chg.refl _ _, fun t s ht => absurd ht (Nat.not_lt_zero _), fun t s h1 h2 => by have := (List.getElem?_eq_some_iff.1 h2).1; omega⟩
  case round =>
    obtain ⟨lo, hi, rfl, rfl, hlh, hin, hg, hch, I1, I2⟩ := hrel
    have HCH := Lib.hid hch
    have J1 := Lib.hid I1
    have J2 := Lib.hid I2
    clear hch I1 I2
    by_cases hlt : lo < hi
    · have hm : (lo + hi) / 2 < ks.length := by omega
      have hsm : ks[(lo + hi) / 2]? = some ks[(lo + hi) / 2] := List.getElem?_eq_getElem hm
      obtain ⟨s, hse⟩ : ∃ s, s = ks[(lo + hi) / 2] := ⟨_, rfl⟩
      rw [← hse] at hsm
      have hmem : s ∈ ks := List.mem_of_getElem? hsm
      obtain ⟨b, o, rfl, hcv⟩ := HCR.out _ HCH.out _ _ hsm
      have HSM := Lib.hid hsm
      have HRS := Lib.hid (HOK.out.right s hmem)
      have HSS := Lib.hid (HOK.out.small s hmem)
      clear hse hsm hmem
      by_cases hyx : Utf.cmpR s key < 0
      · have HYX := Lib.hid hyx
        go_wp2_with (first | (go_at_call 51; (with_reducible refine (utf_Compare s key _ HSS.out hs HRS.out HR.out).mono ?_); rintro e w1 ⟨rfl, hg1⟩))
        go_roundg (hi - ((lo + hi) / 2 + 1))
        case measure => omega
        case rel =>
          refine ⟨(lo + hi) / 2 + 1, hi, by rw [show ((lo : Int) + (hi : Int)) / 2 + 1 = (((lo + hi) / 2 + 1 : Nat) : Int) by omega], rfl, by omega, hin, Nat.le_refl _, HCH.out.trans hg1, fun t s' ht hs' => ?_, J2.out⟩
          by_cases he : t = (lo + hi) / 2
          · subst he; rw [HSM.out] at hs'; injection hs' with hs'; subst hs'; exact HYX.out
          · exact Utf.cmpR_trans (HOK.out.lt hs' HSM.out (by omega)) HYX.out
      · have HYX := Lib.hid hyx
        go_wp2_with (first | (go_at_call 51; (with_reducible refine (utf_Compare s key _ HSS.out hs HRS.out HR.out).mono ?_); rintro e w1 ⟨rfl, hg1⟩))
        go_roundg ((lo + hi) / 2 - lo)
        case measure => omega
        case rel =>
          refine ⟨lo, (lo + hi) / 2, rfl, by rw [show ((lo : Int) + (hi : Int)) / 2 = (((lo + hi) / 2 : Nat) : Int) by omega], by omega, by omega, Nat.le_refl _, HCH.out.trans hg1, J1.out, fun t s' ht hs' => ?_⟩
          by_cases he : t = (lo + hi) / 2
          · subst he; rw [HSM.out] at hs'; injection hs' with hs'; subst hs'; have := HYX.out; omega
          · have h1 := HOK.out.lt HSM.out hs' (by omega)
            have h2 := HYX.out
            by_cases h3 : Utf.cmpR s' key < 0
            · exact absurd (Utf.cmpR_trans h1 h3) (by omega)
            · omega
    · obtain rfl : hi = lo := by omega
      by_cases hn : hi < ks.length
      · have hsm : ks[hi]? = some ks[hi] := List.getElem?_eq_getElem hn
        obtain ⟨s, hse⟩ : ∃ s, s = ks[hi] := ⟨_, rfl⟩
        rw [← hse] at hsm
        have hmem : s ∈ ks := List.mem_of_getElem? hsm
        obtain ⟨b, o, rfl, hcv⟩ := HCR.out _ HCH.out _ _ hsm
        have HSM := Lib.hid hsm
        have HRS := Lib.hid (HOK.out.right s hmem)
        have HSS := Lib.hid (HOK.out.small s hmem)
        clear hse hsm hmem
        by_cases hyx : Utf.cmpR s key = 0
        · have HYX := Lib.hid hyx
          have hb : (Utf.cmpR s key == 0) = true := by simp [hyx]
          clear hyx
          go_wp2_with (first | (go_at_call 51; (with_reducible refine (utf_Compare s key _ HSS.out hs HRS.out HR.out).mono ?_); rintro e w1 ⟨rfl, hg1⟩))
          go_ret2
          exact ⟨hi, true, rfl, HCH.out.trans hg1, fun _ => by rw [HSM.out, Utf.cmpR_eq HYX.out], fun h => by cases h⟩
        · have HYX := Lib.hid hyx
          have hb : (Utf.cmpR s key == 0) = false := by simp [hyx]
          clear hyx
          go_wp2_with (first | (go_at_call 51; (with_reducible refine (utf_Compare s key _ HSS.out hs HRS.out HR.out).mono ?_); rintro e w1 ⟨rfl, hg1⟩))
          go_ret2
          refine ⟨hi, false, rfl, HCH.out.trans hg1, fun h => (by cases h), fun _ hmk => ?_⟩
          obtain ⟨t, ht⟩ := List.mem_iff_getElem?.1 hmk
          have h0 := Utf.cmpR_self key
          by_cases h1 : t < hi
          · have := J1.out t key h1 ht; omega
          · by_cases h2 : t = hi
            · subst h2; rw [HSM.out] at ht; injection ht with ht; subst ht; exact HYX.out h0
            · have h3 := J2.out hi s (Nat.le_refl _) HSM.out
              have h4 := HOK.out.lt HSM.out ht (by omega)
              omega
      · have HN := Lib.hid hn
        go_wp2
        go_ret2
        refine ⟨hi, false, rfl, HCH.out, fun h => (by cases h), fun _ hmk => ?_⟩
        obtain ⟨t, ht⟩ := List.mem_iff_getElem?.1 hmk
        have h0 := Utf.cmpR_self key
        have := (List.getElem?_eq_some_iff.1 ht).1
        have := J1.out t key (by have := HN.out; omega) ht
        omega

/-- what stands at a place -/
def RefAtPost (F : Nat → Prop) (l : List Tr) (i : Int) (w : World) (e : Ending) (w' : World) : Prop :=
  ∃ v ok, e = .returned (.tuple #[.agg #[v], .bool ok]) ∧ Chg w w' [] ∧ ((ok = true ∧ 0 ≤ i ∧ ∃ t, l[i.toNat]? = some t ∧ ItemAt w' F t v) ∨ (ok = false ∧ v = .nilIface ∧ (i < 0 ∨ l.length ≤ i)))

set_option maxRecDepth 100000 in
set_option maxHeartbeats 1000000 in
theorem ref_At (F : Nat → Prop) (t : Tr) (v : Value) (i : Int) (w : World) (ht : ItemAt w F t v) (hF : ∀ k, F k → k < w.heap.size) (hl : (itemsT t).length ≤ 2147483648) :
    Calls Tryz.prog 52 #[.agg #[v], .int .i64 i] w (RefAtPost F (itemsT t) i w) := by
  have HT := Lib.hid ht
  have HF := Lib.hid hF
  obtain ⟨ti, x, rfl⟩ := ht.iface
  have h1 := (((Chg.refl w []).alloc (.cells #[.iface ti x] 74)).alloc (.cells #[.nilIface] 74))
  have HC := Lib.hid (ref_items F t (.iface ti x) _ (ItemAt.kept (h1.keepsF HF.out (by simp)) (fun _ h => h) _ _ HT.out) (fun k hk => Nat.lt_of_lt_of_le (HF.out k hk) h1.size))
  have HB1 := Lib.hid (Blk.new1 w (.cells #[.iface ti x] 74) [.nilIface] 74)
  have H1 := Lib.hid h1
  clear ht hF h1
  by_cases hneg : i < 0
  · go_enter Tryz.func52, Tryz.ntmps52
    go_wp2_with (first | (go_at_call 53; (with_reducible refine HC.out.mono ?_); rintro e w1 ⟨sl, vs, rfl, hr, hi, hg⟩; obtain ⟨a, c, rfl, hcell⟩ := hr.cell; have HB2 := Lib.hid (HB1.out.kept hg (by simp)); obtain ⟨lb, fb, cb⟩ := Blk.cells1 HB2.out; clear hr hi hcell))
    refine bodyPost_ret (v := .tuple #[.agg #[.nilIface], .bool false]) (by simp [results, Tryz.results52, go_sem, lb, fb, cb]) rfl ⟨_, _, rfl, ?_, .inr ⟨rfl, rfl, .inl hneg⟩⟩
    have G := H1.out.trans hg
    (repeat (first | exact G | with_reducible refine Chg.drewN ?_ _ | with_reducible refine Chg.drew ?_ | with_reducible refine Chg.alloc ?_ _ | with_reducible refine Chg.setCell ?_ _ _ (by simp) | with_reducible refine Chg.setCell ?_ _ _ (by simp; omega)))
  · obtain ⟨n, rfl⟩ : ∃ n : Nat, i = n := ⟨i.toNat, by omega⟩
    by_cases hge : n < (itemsT t).length
    · have HGE := Lib.hid hge
      go_enter Tryz.func52, Tryz.ntmps52
      go_wp2_with (first | (go_at_call 53; (with_reducible refine HC.out.mono ?_); rintro e w1 ⟨sl, vs, rfl, hr, hi, hg⟩; obtain ⟨a, c, rfl, hcell⟩ := hr.cell; have HB2 := Lib.hid (HB1.out.kept hg (by simp)); obtain ⟨lb, fb, cb⟩ := Blk.cells1 HB2.out; rw [hi.length]; obtain ⟨u, hu1, hu2⟩ := hi.get n _ (List.getElem?_eq_getElem HGE.out); obtain ⟨tu, xu, rfl⟩ := hu2.iface; obtain ⟨b, o, rfl, hFb, hcu⟩ := hcell n _ hu1; have HU := Lib.hid hu2; clear hr hi hcell hu1 hu2))
      refine bodyPost_ret (v := .tuple #[.agg #[.iface tu xu], .bool true]) (by simp [results, Tryz.results52, go_sem, lb, fb, cb]) rfl ⟨_, _, rfl, ?_, .inl ⟨rfl, by omega, _, List.getElem?_eq_getElem (by simpa using HGE.out), ?_⟩⟩
      · have G := H1.out.trans hg
        (repeat (first | exact G | with_reducible refine Chg.drewN ?_ _ | with_reducible refine Chg.drew ?_ | with_reducible refine Chg.alloc ?_ _ | with_reducible refine Chg.setCell ?_ _ _ (by simp) | with_reducible refine Chg.setCell ?_ _ _ (by simp; omega)))
      · refine ItemAt.kept (F := F) (Chg.keepsF (bs := [w.heap.size + 1]) ((Chg.refl _ _).setCell _ _ (by simp)) (fun k hk => ?_) (fun k hk hf => ?_)) (fun _ h => h) _ _ (by simpa using HU.out)
        · have := HF.out k hk
          have := (H1.out.trans hg).size
          omega
        · simp at hk; subst hk; have := HF.out _ hf; omega
    · have HGE := Lib.hid hge
      go_enter Tryz.func52, Tryz.ntmps52
      go_wp2_with (first | (go_at_call 53; (with_reducible refine HC.out.mono ?_); rintro e w1 ⟨sl, vs, rfl, hr, hi, hg⟩; obtain ⟨a, c, rfl, hcell⟩ := hr.cell; have HB2 := Lib.hid (HB1.out.kept hg (by simp)); obtain ⟨lb, fb, cb⟩ := Blk.cells1 HB2.out; rw [hi.length]; clear hr hi hcell))
      refine bodyPost_ret (v := .tuple #[.agg #[.nilIface], .bool false]) (by simp [results, Tryz.results52, go_sem, lb, fb, cb]) rfl ⟨_, _, rfl, ?_, .inr ⟨rfl, rfl, .inr (by have := HGE.out; omega)⟩⟩
      have G := H1.out.trans hg
      (repeat (first | exact G | with_reducible refine Chg.drewN ?_ _ | with_reducible refine Chg.drew ?_ | with_reducible refine Chg.alloc ?_ _ | with_reducible refine Chg.setCell ?_ _ _ (by simp) | with_reducible refine Chg.setCell ?_ _ _ (by simp; omega)))

/-- the value of a key -/
def FindPost (F : Nat → Prop) (t : Tr) (key : ByteArray) (w : World) (e : Ending) (w' : World) : Prop :=
  ∃ v ok, e = .returned (.tuple #[.agg #[v], .bool ok]) ∧ Chg w w' [] ∧ ((ok = true ∧ ∃ (i : Nat) (u : Tr), (keysT t)[i]? = some key ∧ (itemsT t)[i]? = some u ∧ ItemAt w' F u v) ∨ (ok = false ∧ v = .nilIface ∧ key ∉ keysT t))

set_option maxRecDepth 100000 in
set_option maxHeartbeats 1000000 in
theorem ref_Find (F : Nat → Prop) (t : Tr) (v : Value) (key : ByteArray) (w : World) (ht : ItemAt w F t v) (hF : ∀ k, F k → k < w.heap.size) (hok : KeysOK (keysT t)) (hl : (keysT t).length = 0 ∨ (keysT t).length = (itemsT t).length) (hl2 : (itemsT t).length ≤ 2147483648) (hr : Utf.rightB key = true) (hs : key.size ≤ 2147483648) :
    Calls Tryz.prog 26 #[.agg #[v], .string key] w (FindPost F t key w) := by
  have HT := Lib.hid ht
  have HF := Lib.hid hF
  have HOK := Lib.hid hok
  have HR := Lib.hid hr
  have HL := Lib.hid hl
  obtain ⟨ti, x, rfl⟩ := ht.iface
  have h1 := (((Chg.refl w []).alloc (.cells #[.iface ti x] 74)).alloc (.cells #[.nilIface] 74))
  have HB0 := Lib.hid ((Blk.new w [.iface ti x] 74).alloc (.cells #[.nilIface] 74))
  have HB1 := Lib.hid (Blk.new1 w (.cells #[.iface ti x] 74) [.nilIface] 74)
  have H1 := Lib.hid h1
  have HC := Lib.hid (ref_keys F t (.iface ti x) _ (ItemAt.kept (h1.keepsF HF.out (by simp)) (fun _ h => h) _ _ HT.out) (fun k hk => Nat.lt_of_lt_of_le (HF.out k hk) h1.size))
  clear ht hF h1 hok hr hl
  go_enter Tryz.func26, Tryz.ntmps26
  go_wp2_with (first
    | (go_at_call 50; (with_reducible refine HC.out.mono ?_); rintro e w1 ⟨sk, rfl, hk1, hg1⟩; have HK1 := Lib.hid hk1; have HG1 := Lib.hid hg1; clear hk1 hg1)
    | (go_at_call 49; (with_reducible refine (search_keys F sk (keysT t) key _ HK1.out (fun k hk => Nat.lt_of_lt_of_le (HF.out k hk) (H1.out.trans HG1.out).size) HOK.out HR.out hs).mono ?_); rintro e w2 ⟨i, ok, rfl, hg2, h2a, h2b⟩; have HB2 := Lib.hid ((HB1.out.kept HG1.out (by simp)).kept hg2 (by simp)); obtain ⟨lb, fb, cb⟩ := Blk.cells1 HB2.out; have HB02 := Lib.hid ((HB0.out.kept HG1.out (by simp)).kept hg2 (by simp)); obtain ⟨lb0, fb0, cb0⟩ := Blk.cells1 HB02.out; have H2a := Lib.hid h2a; have H2b := Lib.hid h2b; have HG2 := Lib.hid ((H1.out.trans HG1.out).trans hg2); clear h2a h2b hg2; cases ok)
    | (go_at_call 52; go_loud ((with_reducible refine (ref_At F t (.iface ti x) i _ (ItemAt.kept (HG2.out.keepsF HF.out (by simp)) (fun _ h => h) _ _ HT.out) (fun k hk => Nat.lt_of_lt_of_le (HF.out k hk) HG2.out.size) hl2).mono ?_); rintro e w3 ⟨u, ok3, rfl, hg3, h3⟩; have HB3 := Lib.hid (HB2.out.kept hg3 (by simp)); obtain ⟨lb3, fb3, cb3⟩ := Blk.cells1 HB3.out; have h3' : ok3 = true ∧ ∃ (tt : Tr) (tu : TypeId) (xu : Value), u = .iface tu xu ∧ (itemsT t)[i]? = some tt ∧ ItemAt w3 F tt u := (by
        have hk := H2a.out (by trivial)
        have hlt := (List.getElem?_eq_some_iff.1 hk).1
        rcases h3 with ⟨e1, _, tt, q1, q2⟩ | ⟨_, _, q⟩
        · obtain ⟨tu, xu, e2⟩ := q2.iface
          exact ⟨e1, tt, tu, xu, e2, by simpa using q1, q2⟩
        · have := HL.out; omega); obtain ⟨rfl, tt, tu, xu, rfl, q1, q2⟩ := h3'; have Q1 := Lib.hid q1; have Q2 := Lib.hid q2; clear h3 q1 q2)))
  · refine bodyPost_ret (v := .tuple #[.agg #[.nilIface], .bool false]) (by simp [results, Tryz.results26, go_sem, lb, fb, cb]) rfl ⟨_, _, rfl, ?_, .inr ⟨rfl, rfl, H2b.out (by trivial)⟩⟩
    have G := HG2.out
    (repeat (first | exact G | with_reducible refine Chg.drewN ?_ _ | with_reducible refine Chg.drew ?_ | with_reducible refine Chg.alloc ?_ _ | with_reducible refine Chg.setCell ?_ _ _ (by simp) | with_reducible refine Chg.setCell ?_ _ _ (by simp; omega)))
  · refine bodyPost_ret (v := .tuple #[.agg #[.iface tu xu], .bool true]) (by simp [results, Tryz.results26, go_sem, lb3, fb3, cb3]) rfl ⟨_, _, rfl, ?_, .inl ⟨rfl, i, tt, H2a.out (by trivial), Q1.out, ?_⟩⟩
    · have G := HG2.out.trans hg3
      (repeat (first | exact G | with_reducible refine Chg.drewN ?_ _ | with_reducible refine Chg.drew ?_ | with_reducible refine Chg.alloc ?_ _ | with_reducible refine Chg.setCell ?_ _ _ (by simp) | with_reducible refine Chg.setCell ?_ _ _ (by simp; omega)))
    · refine ItemAt.kept (F := F) (Chg.keepsF (bs := [w.heap.size + 1]) ((Chg.refl _ _).setCell _ _ (by simp)) (fun k hk => ?_) (fun k hk hf => ?_)) (fun _ h => h) _ _ Q2.out
      · have := HF.out k hk
        have := (HG2.out.trans hg3).size
        omega
      · simp at hk; subst hk; have := HF.out _ hf; omega
end Go.Proofs.YtfdhgakalojahaaGreatDoor

namespace Go.Proofs.YtfdhgakalojahaaGreatDoor
open Go Go.RowKit Tree

/-- sv is nil, or stands at the head of a row of its own of n elements of sz cells, and its cells are xs -/
def LstK (w : World) (sv : Value) (e : TypeId) (sz n : Nat) (xs : List Value) : Prop := w.ownsRow 0 e sz sv n xs

theorem LstK.nil (w : World) (e : TypeId) (sz : Nat) : LstK w (.slice none 0 0) e sz 0 [] := World.ownsRow_nil w 0 e sz

theorem LstK.kept {w w' : World} {sv : Value} {e : TypeId} {sz n : Nat} {xs : List Value} {bs : List Nat} (h : LstK w sv e sz n xs) (hc : Chg w w' bs) (hn : ∀ g, sv.ownBlock = some g → g ∉ bs) : LstK w' sv e sz n xs := by
  obtain ⟨h1, h2⟩ := h
  refine ⟨h1, ?_⟩
  rcases h2 with h2 | ⟨g, cap, cur, hv, hb, hg, r⟩
  · exact .inl h2
  · refine .inr ⟨g, cap, cur, hv, hb, ?_, r⟩
    rw [hc.block g (Array.getElem?_eq_some_iff.1 hg).1 (hn g (by subst hv; rfl))]
    exact hg

theorem LstK.form {w : World} {sv : Value} {e : TypeId} {sz n : Nat} {xs : List Value} (h : LstK w sv e sz n xs) : ∃ a cap, sv = .slice a n cap ∧ (0 < n → ∃ g, a = some ⟨g, 0, none⟩) := by
  rcases h.2 with ⟨h1, h2⟩ | ⟨g, cap, cur, hv, _⟩
  · exact ⟨none, 0, by rw [h1, h2], fun hx => by omega⟩
  · exact ⟨_, cap, hv, fun _ => ⟨g, rfl⟩⟩

theorem LstK.cell {w : World} {sv : Value} {e : TypeId} {sz n : Nat} {xs : List Value} (h : LstK w sv e sz n xs) {g : Nat} (hg : sv.ownBlock = some g) (i : Nat) (v : Value) (hv : xs[i]? = some v) : w.cell? ⟨g, i, none⟩ = some v := by
  have := World.ownsRow.cells h hg i v hv
  rwa [show (⟨g, 0, none⟩ : Addr).add i = ⟨g, i, none⟩ from by unfold Addr.add; split <;> simp_all] at this

theorem LstK.lt {w : World} {sv : Value} {e : TypeId} {sz n : Nat} {xs : List Value} (h : LstK w sv e sz n xs) {g : Nat} (hg : sv.ownBlock = some g) : g < w.heap.size := (World.ownsRow.lt h g hg).2

theorem Lst.toK {w : World} {sv : Value} {e : TypeId} {xs : List Value} (h : Lst w sv e xs) : LstK w sv e 1 xs.length xs := h

/-- 'append(s, x)' of one element of several cells that lies in a block of its own. -/
theorem wpList_appendK {P : Program} {ops : Array Oper} {rest : List Oper} {o : Oper} {a : Act} {Q : Exit → Act → World → Prop} {w : World} (hgd : o.guard = none) (s x : Operand) (t : TypeId)
    (ho : o.op = .call { callee := .builtin .append, args := #[s, x], argTypes := #[t, t] })
    (e : TypeId) (z : Value) (sz bytes : Nat) (hsz : 0 < sz) (ht : P.underlying t = some (.slice e)) (hinfo : (P.info? e).map (fun i => (i.zero, i.size, i.bytes)) = some (some z, sz, bytes)) (hzs : z.cells.size = sz)
    (sv : Value) (n : Nat) (xs : List Value) (hs : a.eval s = sv) (hown : LstK w sv e sz n xs)
    (B : Nat) (us : List Value) (hx : a.eval x = .slice (some ⟨B, 0, none⟩) 1 1) (hul : us.length = sz) (hu : ∀ j v, us[j]? = some v → w.cell? ⟨B, j, none⟩ = some v) (hu1 : ∀ u ∈ us, u.oneCell' = true) (hn : (n + 1) * bytes ≤ 140737488355328) (hn' : n ≤ 140737488355328)
    (h : ∀ g cap w', LstK w' (.slice (some ⟨g, 0, none⟩) (n + 1) cap) e sz (n + 1) (xs ++ us) → Chg w w' sv.ownBlock.toList → (sv.ownBlock = some g ∨ g = w.heap.size) →
      wpList P ops Q rest (a.put o.dst (.slice (some ⟨g, 0, none⟩) (n + 1) cap)) w') : wpList P ops Q (o :: rest) a w := by
  obtain ⟨i, hi, hz, hsz', hby⟩ := info_parts hinfo
  have hnews : ∀ j v, us[j]? = some v → w.cell? ((⟨B, 0, none⟩ : Addr).add j) = some v := fun j v hv => by
    rw [show (⟨B, 0, none⟩ : Addr).add j = ⟨B, j, none⟩ from by unfold Addr.add; split <;> simp_all]
    exact hu j v hv
  obtain ⟨g, cap, w', hr, h1, h2, h3, h4⟩ := run_append_lies (P := P) w t o.type 0 e i z sz bytes ht hi hz hsz' hby hzs hsz sv n xs hown ⟨B, 0, none⟩ 1 1 us (by rw [hul, Nat.one_mul]) hnews hu1 (by decide) (by unfold maxLen; omega) hn (Nat.zero_le _) _ rfl
  refine wpList_plain hgd fun K hK => ?_
  unfold Oper.wp execOp
  simp only [ho, resolve, invoke, builtin, Sem.run_bind, Sem.run_pure, Result.andThen_ok, List.map_toArray, List.map_cons, List.map_nil, hs, hx, hr]
  exact hK _ _ (h g cap w' h1 ⟨h2.os, h2.tape, h2.output, h2.size, run_drawn _ _ _ _ hr, fun k hk hn => h2.block k hk fun he => hn (by rw [← he]; simp)⟩ h3)

structure StepP where
  sort : Nat
  flag : Bool
  bits : Nat
  text : ByteArray
  count : Nat
  keys : List ByteArray

def noB : ByteArray := ⟨#[]⟩

/-- the step behind those of the values within -/
def headStep : Tr → StepP
  | .null => ⟨1, false, 0, noB, 0, []⟩
  | .flag b => ⟨2, b, 0, noB, 0, []⟩
  | .num n => ⟨3, false, n, noB, 0, []⟩
  | .text s => ⟨4, false, 0, s, 0, []⟩
  | .list l => ⟨5, false, 0, noB, l.length, []⟩
  | .obj ks _ => ⟨6, false, 0, noB, 0, ks⟩

mutual
def stepsT : Tr → List StepP
  | .null => [headStep .null]
  | .flag b => [headStep (.flag b)]
  | .num n => [headStep (.num n)]
  | .text s => [headStep (.text s)]
  | .list l => stepsL l ++ [headStep (.list l)]
  | .obj ks l => stepsL l ++ [headStep (.obj ks l)]
def stepsL : List Tr → List StepP
  | [] => []
  | t :: l => stepsT t ++ stepsL l
end

theorem stepsT_eq (t : Tr) : stepsT t = stepsL (itemsT t) ++ [headStep t] := by
  cases t <;> simp [stepsT, itemsT, stepsL]

theorem stepsL_append (l m : List Tr) : stepsL (l ++ m) = stepsL l ++ stepsL m := by
  induction l with
  | nil => simp [stepsL]
  | cons t l ih => simp [stepsL, ih]

theorem stepsL_take_succ {l : List Tr} {k : Nat} {t : Tr} (h : l[k]? = some t) : stepsL (l.take (k + 1)) = stepsL (l.take k) ++ stepsT t := by
  rw [List.take_add_one, h, stepsL_append]; simp [stepsL]

mutual
theorem stepsT_length : ∀ t : Tr, (stepsT t).length = (szT t).nodes
  | .null => by simp [stepsT, szT]
  | .flag _ => by simp [stepsT, szT]
  | .num _ => by simp [stepsT, szT]
  | .text _ => by simp [stepsT, szT]
  | .list l => by simp [stepsT, szT, Sz.over, stepsL_length l]; omega
  | .obj ks l => by simp [stepsT, szT, Sz.over, stepsL_length l]; omega
theorem stepsL_length : ∀ l : List Tr, (stepsL l).length = (szL l).nodes
  | [] => by simp [stepsL, szL]
  | t :: l => by simp [stepsL, szL, Sz.add, stepsT_length t, stepsL_length l]
end

theorem nodes_pos (t : Tr) : 1 ≤ (szT t).nodes := by
  rw [← stepsT_length, stepsT_eq]; simp

theorem items_length (t : Tr) : (itemsT t).length < (szT t).nodes := by
  have h : ∀ l : List Tr, l.length ≤ (szL l).nodes := by
    intro l
    induction l with
    | nil => simp
    | cons t l ih => simp only [szL, Sz.add, List.length_cons]; have := nodes_pos t; omega
  have := h (itemsT t)
  rw [← stepsL_length] at this
  rw [← stepsT_length, stepsT_eq]
  simp; omega

theorem item_nodes {t u : Tr} {k : Nat} (h : (itemsT t)[k]? = some u) : (szT u).nodes < (szT t).nodes := by
  have h2 : ∀ (l : List Tr) (k : Nat), l[k]? = some u → (szT u).nodes ≤ (szL l).nodes := by
    intro l
    induction l with
    | nil => intro k h; simp at h
    | cons x l ih =>
      intro k h
      simp only [szL, Sz.add]
      cases k with
      | zero => simp at h; subst h; omega
      | succ k => have := ih k (by simpa using h); omega
  have := h2 _ _ h
  rw [← stepsL_length] at this
  rw [← stepsT_length t, stepsT_eq]
  simp; omega

def stepC (s : StepP) (sk : Value) : List Value := [.int .i64 s.sort, .bool s.flag, .int .u64 s.bits, .string s.text, .int .i64 s.count, sk]

/-- steps as they lie in memory, their keys in the blocks of F -/
def StepsAt (w : World) (F : Nat → Prop) : List StepP → List Value → Prop
  | [], xs => xs = []
  | s :: l, xs => ∃ sk r, xs = stepC s sk ++ r ∧ RowAt w F sk (strs s.keys) ∧ StepsAt w F l r

theorem StepsAt.kept {w w' : World} {F G : Nat → Prop} (hk : Keeps F w w') (hF : ∀ b, F b → G b) : ∀ (l : List StepP) (xs : List Value), StepsAt w F l xs → StepsAt w' G l xs
  | [], _, h => h
  | s :: l, _, ⟨sk, r, h1, h2, h3⟩ => ⟨sk, r, h1, h2.kept hk hF, StepsAt.kept hk hF l r h3⟩

theorem StepsAt.append {w : World} {F : Nat → Prop} : ∀ {l m : List StepP} {xs ys : List Value}, StepsAt w F l xs → StepsAt w F m ys → StepsAt w F (l ++ m) (xs ++ ys)
  | [], _, _, _, h, k => by unfold StepsAt at h; subst h; exact k
  | s :: l, _, _, _, ⟨sk, r, h1, h2, h3⟩, k => ⟨sk, r ++ _, by rw [h1, List.append_assoc], h2, h3.append k⟩

theorem StepsAt.one {w : World} {F : Nat → Prop} (s : StepP) (sk : Value) (h : RowAt w F sk (strs s.keys)) : StepsAt w F [s] (stepC s sk) := ⟨sk, [], by simp, h, rfl⟩

theorem StepsAt.length {w : World} {F : Nat → Prop} : ∀ {l : List StepP} {xs : List Value}, StepsAt w F l xs → xs.length = 6 * l.length
  | [], _, h => by unfold StepsAt at h; subst h; rfl
  | s :: l, _, ⟨sk, r, h1, _, h3⟩ => by subst h1; have := h3.length; simp [stepC]; omega

theorem StepsAt.get {w : World} {F : Nat → Prop} : ∀ {l : List StepP} {xs : List Value}, StepsAt w F l xs → ∀ (i : Nat) (s : StepP), l[i]? = some s → ∃ sk, RowAt w F sk (strs s.keys) ∧ ∀ j v, (stepC s sk)[j]? = some v → xs[6 * i + j]? = some v
  | [], _, _, i, s, hs => by simp at hs
  | s0 :: l, _, ⟨sk, r, h1, h2, h3⟩, i, s, hs => by
    subst h1
    cases i with
    | zero =>
      simp at hs; subst hs
      refine ⟨sk, h2, fun j v hv => ?_⟩
      have hj : j < (stepC s0 sk).length := (List.getElem?_eq_some_iff.1 hv).1
      rw [Nat.mul_zero, Nat.zero_add, List.getElem?_append_left hj, hv]
    | succ i =>
      obtain ⟨sk', k2, k3⟩ := h3.get i s (by simpa using hs)
      refine ⟨sk', k2, fun j v hv => ?_⟩
      rw [List.getElem?_append_right (by simp [stepC]; omega), ← k3 j v hv]
      congr 1
      simp [stepC]; omega

theorem strs_len (ks : List ByteArray) : (strs ks).length = ks.length := by simp [strs]
theorem strs_one (ks : List ByteArray) : ∀ u ∈ strs ks, u.oneCell' = true := by
  intro u hu
  obtain ⟨k, _, rfl⟩ := List.mem_map.1 hu
  rfl

theorem Lst.toRow {w : World} {sv : Value} {e : TypeId} {xs : List Value} (h : Lst w sv e xs) : RowAt w (fun b => sv.ownBlock = some b) sv xs := by
  obtain ⟨a, c, rfl, hne⟩ := h.form
  by_cases hx : xs = []
  · subst hx; exact .inl ⟨rfl, a, c, rfl⟩
  · obtain ⟨g, rfl⟩ := hne hx
    exact .inr ⟨g, 0, c, rfl, rfl, fun i v hv => by rw [Nat.zero_add]; exact h.cell rfl i v hv⟩

theorem stepC_one (s : StepP) (sk : Value) (a : Option Addr) (n c : Nat) (h : sk = .slice a n c) : ∀ u ∈ stepC s sk, u.oneCell' = true := by
  subst h
  intro u hu
  simp only [stepC, List.mem_cons, List.not_mem_nil, or_false] at hu
  rcases hu with rfl | rfl | rfl | rfl | rfl | rfl <;> rfl
end Go.Proofs.YtfdhgakalojahaaGreatDoor

namespace Go.Proofs.YtfdhgakalojahaaGreatDoor
open Go Go.RowKit

/-- 'append(l, more...)' where more begins anywhere in a block -/
theorem wpList_appendO {P : Program} {ops : Array Oper} {rest : List Oper} {o : Oper} {a : Act} {Q : Exit → Act → World → Prop} {w : World} (hgd : o.guard = none) (s x : Operand) (t : TypeId)
    (ho : o.op = .call { callee := .builtin .append, args := #[s, x], argTypes := #[t, t] })
    (e : TypeId) (z : Value) (sz bytes : Nat) (hsz : 0 < sz) (ht : P.underlying t = some (.slice e)) (hinfo : (P.info? e).map (fun i => (i.zero, i.size, i.bytes)) = some (some z, sz, bytes)) (hzs : z.cells.size = sz)
    (sv : Value) (n : Nat) (xs : List Value) (hs : a.eval s = sv) (hown : LstK w sv e sz n xs)
    (B o0 m c : Nat) (us : List Value) (hx : a.eval x = .slice (some ⟨B, o0, none⟩) m c) (hm : 0 < m) (hul : us.length = m * sz) (hu : ∀ j v, us[j]? = some v → w.cell? ⟨B, o0 + j, none⟩ = some v) (hu1 : ∀ u ∈ us, u.oneCell' = true) (hn : (n + m) * bytes ≤ 140737488355328) (hn' : n + m ≤ 140737488355328)
    (h : ∀ g cap w', LstK w' (.slice (some ⟨g, 0, none⟩) (n + m) cap) e sz (n + m) (xs ++ us) → Chg w w' sv.ownBlock.toList → (sv.ownBlock = some g ∨ g = w.heap.size) →
      wpList P ops Q rest (a.put o.dst (.slice (some ⟨g, 0, none⟩) (n + m) cap)) w') : wpList P ops Q (o :: rest) a w := by
  obtain ⟨i, hi, hz, hsz', hby⟩ := info_parts hinfo
  have hnews : ∀ j v, us[j]? = some v → w.cell? ((⟨B, o0, none⟩ : Addr).add j) = some v := fun j v hv => by
    rw [show (⟨B, o0, none⟩ : Addr).add j = ⟨B, o0 + j, none⟩ from by unfold Addr.add; split <;> simp_all]
    exact hu j v hv
  obtain ⟨g, cap, w', hr, h1, h2, h3, h4⟩ := run_append_lies (P := P) w t o.type 0 e i z sz bytes ht hi hz hsz' hby hzs hsz sv n xs hown ⟨B, o0, none⟩ m c us hul hnews hu1 hm (by unfold maxLen; omega) hn (Nat.zero_le _) _ rfl
  refine wpList_plain hgd fun K hK => ?_
  unfold Oper.wp execOp
  simp only [ho, resolve, invoke, builtin, Sem.run_bind, Sem.run_pure, Result.andThen_ok, List.map_toArray, List.map_cons, List.map_nil, hs, hx, hr]
  exact hK _ _ (h g cap w' h1 ⟨h2.os, h2.tape, h2.output, h2.size, run_drawn _ _ _ _ hr, fun k hk hn => h2.block k hk fun he => hn (by rw [← he]; simp)⟩ h3)

/-- The same, of cells of one, for a row whose length is that of its list -/
theorem wpList_append2 {P : Program} {ops : Array Oper} {rest : List Oper} {o : Oper} {a : Act} {Q : Exit → Act → World → Prop} {w : World} (hgd : o.guard = none) (s x : Operand) (t : TypeId)
    (ho : o.op = .call { callee := .builtin .append, args := #[s, x], argTypes := #[t, t] })
    (e : TypeId) (z : Value) (bytes : Nat) (ht : P.underlying t = some (.slice e)) (hinfo : (P.info? e).map (fun i => (i.zero, i.size, i.bytes)) = some (some z, 1, bytes)) (hzs : z.cells.size = 1)
    (sv : Value) (xs : List Value) (hs : a.eval s = sv) (hown : Lst w sv e xs)
    (B o0 m c : Nat) (us : List Value) (hx : a.eval x = .slice (some ⟨B, o0, none⟩) m c) (hm : 0 < m) (hul : us.length = m) (hu : ∀ j v, us[j]? = some v → w.cell? ⟨B, o0 + j, none⟩ = some v) (hu1 : ∀ u ∈ us, u.oneCell' = true) (hn : (xs.length + m) * bytes ≤ 140737488355328) (hn' : xs.length + m ≤ 140737488355328)
    (h : ∀ g cap w', Lst w' (.slice (some ⟨g, 0, none⟩) (xs.length + m) cap) e (xs ++ us) → Chg w w' sv.ownBlock.toList → (sv.ownBlock = some g ∨ g = w.heap.size) →
      wpList P ops Q rest (a.put o.dst (.slice (some ⟨g, 0, none⟩) (xs.length + m) cap)) w') : wpList P ops Q (o :: rest) a w :=
  wpList_appendO hgd s x t ho e z 1 bytes (by decide) ht hinfo hzs sv xs.length xs hs hown.toK B o0 m c us hx hm (by omega) hu hu1 hn hn' fun g cap w' h1 h2 h3 =>
    h g cap w' (by unfold Lst; rw [List.length_append, hul]; exact h1) h2 h3
end Go.Proofs.YtfdhgakalojahaaGreatDoor

namespace Go.Proofs.YtfdhgakalojahaaGreatDoor
open Go Go.RowKit

def u16s (l : List Nat) : List Value := l.map fun (n : Nat) => Value.int .u16 n

theorem u16s_append (l m : List Nat) : u16s (l ++ m) = u16s l ++ u16s m := by simp [u16s]

theorem cells_new (w : World) (cs : List Value) (T : TypeId) : ∀ j v, cs[j]? = some v → (w.alloc (.cells cs.toArray T)).cell? ⟨w.heap.size, 0 + j, none⟩ = some v := fun j v hv => by
  rw [(Blk.new w cs T).cell, Nat.zero_add, hv]

theorem runes_len {s : ByteArray} {L : List Int} (h : Utf.runes s = some L) : L.length ≤ s.size := by have := runesF_len _ _ _ h; omega

theorem unitsR_len (r : Nat) : (Utf.unitsR r).length ≤ 2 := by unfold Utf.unitsR; split <;> simp
theorem units_len (l : List Nat) : (l.flatMap Utf.unitsR).length ≤ 2 * l.length := by
  induction l with
  | nil => simp
  | cons x l ih => have := unitsR_len x; simp only [List.flatMap_cons, List.length_append, List.length_cons]; omega

set_option maxRecDepth 100000 in
set_option maxHeartbeats 2000000 in
theorem r3_Units (s : ByteArray) (w : World) (hs : s.size ≤ 2147483648) (hr : Utf.rightB s = true) :
    Calls Tryz.prog 141 #[.string s] w fun e w' => (∃ v, e = .returned v ∧ Lst w' v 242 (u16s (Utf.unitsT s)) ∧ ∀ g, v.ownBlock = some g → w.heap.size ≤ g) ∧ Chg w w' [] := by
  obtain ⟨m, hm, hb, _⟩ := Utf.right_runes hr
  have hml : m.length ≤ s.size := by have := runes_len hm; simpa using this
  have hut : Utf.unitsT s = m.flatMap Utf.unitsR := by unfold Utf.unitsT; rw [hm]; simp [List.flatMap_map]
  rw [hut]
  have HM := Lib.hid hm
  have HB := Lib.hid hb
  have HIL : Hid ((i32s (m.map Int.ofNat)).length = m.length) := by unfold Hid i32s; simp
  clear hm hb hr hut
  go_enter Tryz.func141, Tryz.ntmps141
  go_wp2_with (first | (go_at_call 160; refine (r3_Runes s _ _ hs HM.out).mono ?_; rintro e w1 ⟨⟨v, u, rfl, hL, ho⟩, hg1⟩; obtain ⟨a1, c1, rfl, _⟩ := hL.form; rw [HIL.out] at hL ho ⊢))
  have HL := Lib.hid hL
  have HO := Lib.hid ho
  have HG1 := Lib.hid hg1
  clear hL ho hg1
  go_loopw [3, 6] (fun v3 v6 wr => ∃ i : Nat, i ≤ m.length ∧ v6 = .int .i64 i ∧ Lst wr v3 242 (u16s ((m.take i).flatMap Utf.unitsR)) ∧ Chg w1 wr [] ∧ ∀ g, v3.ownBlock = some g → w1.heap.size ≤ g) (fun _ v6 _ => m.length - (intOf v6).toNat)
  case atStart => exact ⟨0, by omega, rfl, Lst.nil _ _, Chg.refl _ _, fun g hg => (by cases hg)⟩
  case round =>
    obtain ⟨wa, rfl⟩ : ∃ x, x = wr := ⟨_, rfl⟩
    obtain ⟨i, hi, rfl, hL3, hg, ho3⟩ := hrel
    have HL3 := Lib.hid hL3
    have HG := Lib.hid hg
    have HO3 := Lib.hid ho3
    clear hL3 hg ho3
    by_cases hlt : i < m.length
    · obtain ⟨r, hr⟩ : ∃ r, m[i]? = some r := ⟨_, List.getElem?_eq_getElem hlt⟩
      have hrb : r < 1114112 := HB.out r (List.mem_iff_getElem?.2 ⟨i, hr⟩)
      have hcell : ∃ g1, a1 = some ⟨g1, 0, none⟩ ∧ wa.cell? ⟨g1, i, none⟩ = some (.int .i32 r) := by
        obtain ⟨a', c', e', ha'⟩ := HL.out.form
        injection e' with e1 _ e3
        subst e1
        obtain ⟨g1, rfl⟩ := ha' (by intro h0; have h1 := HIL.out; rw [h0] at h1; simp at h1; omega)
        have hc : w1.cell? ⟨g1, i, none⟩ = some (.int .i32 r) := HL.out.cell rfl i _ (by simp [i32s, hr])
        exact ⟨g1, rfl, HG.out.keeps hc⟩
      obtain ⟨g1, rfl, hcell⟩ := hcell
      have hnx : (m.take (i + 1)).flatMap Utf.unitsR = (m.take i).flatMap Utf.unitsR ++ Utf.unitsR r := by
        rw [List.take_add_one, hr, List.flatMap_append]; simp
      have hul : (u16s ((m.take i).flatMap Utf.unitsR)).length ≤ 2 * i := by
        have := units_len (m.take i)
        rw [List.length_take] at this
        simp only [u16s, List.length_map]
        omega
      obtain ⟨us, hus⟩ : ∃ x, x = u16s ((m.take i).flatMap Utf.unitsR) := ⟨_, rfl⟩
      have HL3' : Hid (Lst wa u3 242 us) := by rw [hus]; exact HL3.out
      rw [← hus] at hul
      by_cases hsm : r < 65536
      · have hnx' : u16s ((m.take (i + 1)).flatMap Utf.unitsR) = us ++ [.int .u16 r] := by
          rw [hnx, u16s_append, ← hus]; simp [Utf.unitsR, u16s, hsm]
        have HN := Lib.hid hnx'
        have hI : (r : Int) < 65536 := by omega
        obtain ⟨R, hR⟩ : ∃ R : Int, R = (r : Int) := ⟨_, rfl⟩
        have hR0 : 0 ≤ R := by omega
        rw [← hR] at hI hcell HN
        clear hnx hnx' hus hr hsm hrb hR
        go_wp2_with (first
          | (at_builtin; refine wpList_append1 rfl _ _ _ rfl 242 (.int .u16 0) 2 Tryz.underlying240 info_u16 rfl u3 us (by rfl) (by exact HL3'.out.kept (bs := []) (by (repeat (first | exact Chg.refl _ _ | with_reducible refine Chg.drewN ?_ _ | with_reducible refine Chg.drew ?_ | with_reducible refine Chg.alloc ?_ _ | with_reducible refine Chg.setCell ?_ _ _ (by simp) | with_reducible refine Chg.setCell ?_ _ _ (by simp; omega)))) (by simp)) wa.heap.size (.int .u16 R) (by rfl) (by exact cell_new (by simp) _ _) rfl (by omega) (by omega) ?_; intro g cap' w3 hL4 hC3 hG3; have HL4 := Lib.hid hL4; have HC3 := Lib.hid hC3; have HG3 := Lib.hid hG3; clear hL4 hC3 hG3))
        go_roundw
        case rel =>
          have z1 := HG.out.size
          refine ⟨i + 1, by omega, by go_num, by rw [HN.out]; exact HL4.out, Chg.own (sv := .slice none 0 0) (by (repeat (first | exact HG.out | with_reducible refine Chg.drewN ?_ _ | with_reducible refine Chg.drew ?_ | with_reducible refine Chg.alloc ?_ _ | with_reducible refine Chg.setCell ?_ _ _ (by simp) | with_reducible refine Chg.setCell ?_ _ _ (by simp; omega)))) HC3.out (fun g hg => by cases hg) (fun g hg => .inr (HO3.out g hg)), fun g' hg' => ?_⟩
          simp [Value.ownBlock] at hg'; subst hg'
          rcases HG3.out with h | h
          · exact HO3.out _ h
          · simp at h; omega
        case measure => simp [intOf]; omega
      · have hnx' : u16s ((m.take (i + 1)).flatMap Utf.unitsR) = us ++ [.int .u16 (55296 + ((r : Int) - 65536) / 1024), .int .u16 (56320 + ((r : Int) - 65536) % 1024)] := by
          rw [hnx, u16s_append, ← hus]; simp [Utf.unitsR, u16s, hsm]; omega
        have HN := Lib.hid hnx'
        have h65 : 65536 ≤ (r : Int) := by omega
        have hI : (r : Int) < 1114112 := by omega
        obtain ⟨R, hR⟩ : ∃ R : Int, R = (r : Int) := ⟨_, rfl⟩
        rw [← hR] at h65 hI hcell HN
        clear hnx hnx' hus hr hsm hrb hR
        go_wp2_with (first
          | (at_builtin; go_loud (refine wpList_append2 rfl _ _ _ rfl 242 (.int .u16 0) 2 Tryz.underlying240 info_u16 rfl u3 us (by rfl) (by exact HL3'.out.kept (bs := []) (by (repeat (first | exact Chg.refl _ _ | with_reducible refine Chg.drewN ?_ _ | with_reducible refine Chg.drew ?_ | with_reducible refine Chg.alloc ?_ _ | with_reducible refine Chg.setCell ?_ _ _ (by simp) | with_reducible refine Chg.setCell ?_ _ _ (by simp; omega)))) (by simp)) wa.heap.size 0 2 2 [.int .u16 (55296 + (R - 65536) / 1024), .int .u16 (56320 + (R - 65536) % 1024)] (by rfl) (by decide) rfl (by exact cells_new _ _ _) (by intro u hu; simp at hu; rcases hu with rfl | rfl <;> rfl) (by omega) (by omega) ?_; intro g cap' w3 hL4 hC3 hG3; have HL4 := Lib.hid hL4; have HC3 := Lib.hid hC3; have HG3 := Lib.hid hG3; clear hL4 hC3 hG3)))
        go_roundw
        case rel =>
          have z1 := HG.out.size
          refine ⟨i + 1, by omega, by go_num, by rw [HN.out]; exact HL4.out, Chg.own (sv := .slice none 0 0) (by (repeat (first | exact HG.out | with_reducible refine Chg.drewN ?_ _ | with_reducible refine Chg.drew ?_ | with_reducible refine Chg.alloc ?_ _ | with_reducible refine Chg.setCell ?_ _ _ (by simp) | with_reducible refine Chg.setCell ?_ _ _ (by simp; omega)))) HC3.out (fun g hg => by cases hg) (fun g hg => .inr (HO3.out g hg)), fun g' hg' => ?_⟩
          simp [Value.ownBlock] at hg'; subst hg'
          rcases HG3.out with h | h
          · exact HO3.out _ h
          · simp at h; omega
        case measure => simp [intOf]; omega
    · obtain rfl : i = m.length := by omega
      rw [List.take_of_length_le (Nat.le_refl _)] at HL3
      go_wp2
      go_ret
      exact ⟨⟨_, rfl, HL3.out, fun g hg => Nat.le_trans HG1.out.size (HO3.out g hg)⟩, HG1.out.trans HG.out⟩
end Go.Proofs.YtfdhgakalojahaaGreatDoor

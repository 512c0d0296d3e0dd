/- PLAIN: a head as a value; letters of a digest. WALKS: a head as a value, by the reference. -/
import Derived.Laws.Cover2
import Derived.Test.YtfdhgakalojahaaGreatDoorM10
import Derived.Test.YtfdhgakalojahaaGreatDoorM01
import Derived.Test.YtfdhgakalojahaaGreatDoorM04
import Derived.Test.YtfdhgakalojahaaGreatDoorM07
import Derived.Test.YtfdhgakalojahaaGreatDoorM23
import Derived.Test.YtfdhgakalojahaaGreatDoorM03
import Derived.Test.YtfdhgakalojahaaGreatDoorM05
set_option linter.unusedSimpArgs false
set_option linter.unusedVariables false
set_option linter.unnecessarySimpa false
set_option linter.unusedSectionVars false
namespace Go.Proofs.YtfdhgakalojahaaGreatDoor
open Go Go.RowKit Tree

theorem right_ascii {s : ByteArray} (h : ∀ i, i < s.size → Utf.byteAt s i < 128) : Utf.rightB s = true := by
  have inv : ∀ k, k ≤ s.size → Utf.Inv s k 0 0 := by
    intro k
    induction k with
    | zero => intro _; exact Utf.inv_start s 0
    | succ k ih =>
      intro hk
      have hb := h k (by omega)
      exact Utf.inv_one (ih (by omega)) (by omega) (by unfold Utf.wideN; rw [if_pos hb]) 0
  exact Utf.inv_end (inv s.size (Nat.le_refl _))

theorem byteAt_nums {xs : List Int} {i : Nat} {x : Int} (h : xs[i]? = some x) (hx : 0 ≤ x ∧ x < 256) : Utf.byteAt (strOfNums xs) i = x.toNat := by
  have hi : i < xs.length := (List.getElem?_eq_some_iff.1 h).1
  have hs : i < (strOfNums xs).size := by rw [strOfNums_size]; exact hi
  rw [Utf.byteAt_eq hs]
  have : (strOfNums xs)[i]'hs = UInt8.ofNat x.toNat := by
    have h1 : (strOfNums xs).data.toList[i]? = some (UInt8.ofNat x.toNat) := by rw [strOfNums_data, List.getElem?_map, h]; rfl
    rw [Array.getElem?_toList] at h1
    have h2 := Array.getElem?_eq_some_iff.1 h1
    exact h2.2
  rw [this, UInt8.toNat_ofNat']
  omega

theorem hexI_get (s : ByteArray) (n i : Nat) (hi : i < 2 * n) : (hexI s n)[i]? = some ((hexD (nib s i) : Nat) : Int) := by
  have h := hexV_get s n i hi
  rw [← hexI_V, List.getElem?_map] at h
  cases hx : (hexI s n)[i]? with
  | none => rw [hx] at h; simp at h
  | some x => rw [hx] at h; simp at h; rw [h]

theorem hexI_length (s : ByteArray) (n : Nat) : (hexI s n).length = 2 * n := by
  have h := congrArg List.length (hexI_V s n)
  rwa [List.length_map, hexV_length] at h

theorem hexD_lt {n : Nat} (h : n < 16) : 48 ≤ hexD n ∧ hexD n < 128 := by unfold hexD; split <;> omega

theorem hexS_size (s : ByteArray) : (hexS s).size = 2 * s.size := by unfold hexS; rw [strOfNums_size, hexI_length]

theorem hexS_byte (s : ByteArray) (i : Nat) (hi : i < 2 * s.size) : Utf.byteAt (hexS s) i = hexD (nib s i) := by
  have h := hexD_lt (nib_lt s i)
  have := byteAt_nums (hexI_get s s.size i hi) (by omega)
  rw [show hexS s = strOfNums (hexI s s.size) from rfl, this]
  omega

theorem hexS_right (s : ByteArray) : Utf.rightB (hexS s) = true :=
  right_ascii fun i hi => by
    rw [hexS_size] at hi
    rw [hexS_byte s i hi]
    exact (hexD_lt (nib_lt s i)).2

/-- a digest as a text of bytes -/
def dgB (rb : List UInt8) : ByteArray := ⟨rb.toArray⟩

theorem dgB_nums (rb : List UInt8) : strOfNums (rb.map fun b => (b.toNat : Int)) = dgB rb := by
  unfold strOfNums dgB
  rw [List.map_map]
  congr 2
  have : ((fun n : Int => UInt8.ofNat n.toNat) ∘ fun b : UInt8 => (b.toNat : Int)) = id := by
    funext b
    simp
  rw [this, List.map_id]

theorem dgB_size (rb : List UInt8) : (dgB rb).size = rb.length := by unfold dgB; simp [ByteArray.size]

def kO : ByteArray := ⟨#[111, 114, 105, 103, 105, 110]⟩
def kR : ByteArray := ⟨#[114, 111, 111, 116]⟩
def kS : ByteArray := ⟨#[115, 105, 122, 101]⟩
def kT : ByteArray := ⟨#[116, 105, 109, 101]⟩
def keys4 : List ByteArray := [kO, kR, kS, kT]

theorem sort_keys4 : sortK keys4 = keys4 := by
  unfold sortK
  refine List.mergeSort_of_pairwise ?_
  have h01 : (!decide (Utf.cmpR kR kO < 0)) = true := by kernel_rfl
  have h02 : (!decide (Utf.cmpR kS kO < 0)) = true := by kernel_rfl
  have h03 : (!decide (Utf.cmpR kT kO < 0)) = true := by kernel_rfl
  have h12 : (!decide (Utf.cmpR kS kR < 0)) = true := by kernel_rfl
  have h13 : (!decide (Utf.cmpR kT kR < 0)) = true := by kernel_rfl
  have h23 : (!decide (Utf.cmpR kT kS < 0)) = true := by kernel_rfl
  refine .cons ?_ (.cons ?_ (.cons ?_ (.cons ?_ .nil)))
  all_goals
    intro a ha
    simp only [List.mem_cons, List.not_mem_nil, or_false] at ha
  · rcases ha with rfl | rfl | rfl <;> assumption
  · rcases ha with rfl | rfl <;> assumption
  · rcases ha with rfl; assumption

theorem place_keys4 : keys4.map (place keys4) = [0, 1, 2, 3] := by kernel_rfl

theorem objT_keys4 (a b c d : Tr) : objT keys4 [a, b, c, d] = .obj keys4 [a, b, c, d] := by
  unfold objT objL
  rw [sort_keys4]
  have h := place_keys4
  simp only [keys4, List.map_cons, List.map_nil, List.cons.injEq, and_true] at h
  obtain ⟨h0, h1, h2, h3⟩ := h
  simp only [keys4, List.map_cons, List.map_nil]
  rw [h0, h1, h2, h3]
  rfl

theorem keys4_right : ∀ s ∈ keys4, Utf.rightB s = true := by
  intro s hs
  simp only [keys4, List.mem_cons, List.not_mem_nil, or_false] at hs
  rcases hs with rfl | rfl | rfl | rfl <;> kernel_rfl

theorem keys4_small : ∀ s ∈ keys4, s.size ≤ 2147483648 := by
  intro s hs
  simp only [keys4, List.mem_cons, List.not_mem_nil, or_false] at hs
  rcases hs with rfl | rfl | rfl | rfl <;> decide

theorem keys4_nodup : keys4.Nodup := by decide

/-- a head's value -/
def headT (o h : ByteArray) (n t : Nat) : Tr := .obj keys4 [.text o, .text h, .num (Fl.wd n), .num (Fl.wd t)]

theorem headT_sz (o h : ByteArray) (n t : Nat) : szT (headT o h n t) = ⟨5, o.size + h.size + 18, 2⟩ := by
  unfold headT
  simp only [szT, szL, Sz.over, Sz.add]
  congr 1
  · show bytesOf keys4 + _ = _
    rw [show bytesOf keys4 = 18 from by kernel_rfl]
    omega

theorem normB_wd {k : Nat} (h : k < 9007199254740992) : normB (Fl.wd k) = Fl.wd k := by
  unfold normB
  rw [Fl.rung_wd h]
  split
  · omega
  · rfl

theorem floatOfInt_nat (k : Nat) : floatOfInt .f64 (k : Int) = Fl.wd k := by
  unfold floatOfInt FloatKind.nearest FloatKind.encode FloatKind.format Fl.wd Ieee.Format.write
  simp only [Int.natAbs_natCast]
  rw [decide_eq_false (by omega)]
end Go.Proofs.YtfdhgakalojahaaGreatDoor

namespace Go.Proofs.YtfdhgakalojahaaGreatDoor
open Go Go.RowKit Tree

/-- a value of the reference's, as cells -/
def vC (sort : Int) (flag : Bool) (bits : Int) (text : ByteArray) (items keys : Value) : List Value := [.int .i64 sort, .bool flag, .int .u64 bits, .string text, items, keys]

theorem vC_arr (sort : Int) (flag : Bool) (bits : Int) (text : ByteArray) (items keys : Value) : (vC sort flag bits text items keys).toArray = #[.int .i64 sort, .bool flag, .int .u64 bits, .string text, items, keys] := rfl

theorem info_val : (Tryz.prog.info? 42).map (·.size) = some 6 := by kernel_rfl

theorem r30_text (s : ByteArray) (w : World) :
    Calls Tryz.prog 36 #[.string s] w fun e w' => e = .returned (.agg (vC 4 false 0 s (.slice none 0 0) (.slice none 0 0)).toArray) ∧ Chg w w' [] := by
  go_enter Tryz.func36, Tryz.ntmps36
  go_wp2
  refine bodyPost_ret (results_blk rfl _ _ w.heap.size 42 (vC 4 false 0 s (.slice none 0 0) (.slice none 0 0)) _ rfl (Blk.new w _ _) Tryz.underlying42 rfl info_val) rfl ⟨rfl, (Chg.refl w []).alloc _⟩

def numB (b : Nat) : Nat := if b = 9223372036854775808 then 0 else b

theorem r10_Num (b : Nat) (w : World) :
    Calls Tryz.prog 38 #[.int .u64 b] w fun e w' => e = .returned (.agg (vC 3 false (numB b) ⟨#[]⟩ (.slice none 0 0) (.slice none 0 0)).toArray) ∧ Chg w w' [] := by
  by_cases h : b = 9223372036854775808
  · have hn : numB b = 0 := by unfold numB; rw [if_pos h]
    rw [hn]
    have d : ((b : Int) == 9223372036854775808) = true := by simp; omega
    clear hn h
    go_enter Tryz.func38, Tryz.ntmps38
    go_wp2
    refine bodyPost_ret (results_blk rfl _ _ w.heap.size 42 (vC 3 false 0 ⟨#[]⟩ (.slice none 0 0) (.slice none 0 0)) _ rfl (Blk.new w _ _) Tryz.underlying42 rfl info_val) rfl ⟨rfl, (Chg.refl w []).alloc _⟩
  · have hn : numB b = b := by unfold numB; rw [if_neg h]
    rw [hn]
    have d : ((b : Int) == 9223372036854775808) = false := by simp; omega
    clear hn h
    go_enter Tryz.func38, Tryz.ntmps38
    go_wp2
    refine bodyPost_ret (results_blk rfl _ _ w.heap.size 42 (vC 3 false b ⟨#[]⟩ (.slice none 0 0) (.slice none 0 0)) _ rfl (Blk.new w _ _) Tryz.underlying42 rfl info_val) rfl ⟨rfl, (Chg.refl w []).alloc _⟩

theorem dgB_byte (rb : List UInt8) (i : Nat) (hi : i < rb.length) : Utf.byteAt (dgB rb) i = (rb[i]'hi).toNat := by
  rw [Utf.byteAt_eq (by rw [dgB_size]; exact hi)]
  rfl

/-- the four values -/
def headV (o h : ByteArray) (n t : Nat) : List Value :=
  vC 4 false 0 o (.slice none 0 0) (.slice none 0 0) ++ vC 4 false 0 h (.slice none 0 0) (.slice none 0 0) ++ vC 3 false (Fl.wd n) ⟨#[]⟩ (.slice none 0 0) (.slice none 0 0) ++ vC 3 false (Fl.wd t) ⟨#[]⟩ (.slice none 0 0) (.slice none 0 0)

def RTellPost (o : ByteArray) (n t : Nat) (rb : List UInt8) (w : World) (e : Ending) (w' : World) : Prop :=
  ∃ g0 g1, e = .returned (.agg (vC 6 false 0 ⟨#[]⟩ (.slice (some ⟨g1, 0, none⟩) 4 4) (.slice (some ⟨g0, 0, none⟩) 4 4)).toArray) ∧ Blk w' g0 (strs keys4) 9 ∧ Blk w' g1 (headV o (hexS (dgB rb)) n t) 42 ∧ Chg w w' []

/-- what each operation of Tell's region yields -/
def TellV (X : Nat) (o : ByteArray) (n t : Nat) (rb : List UInt8) : Nat → Value → World → Prop
  | 0, v, w => ∃ g, v = .slice (some ⟨g, 0, none⟩) 4 4 ∧ Blk w g (strs keys4) 9 ∧ X + 1 < g
  | 1, v, _ => v = .pointer (some ⟨X, 0, none⟩)
  | 2, v, _ => v = .string o
  | 3, v, _ => v = .agg (vC 4 false 0 o (.slice none 0 0) (.slice none 0 0)).toArray
  | 4, v, _ => v = .pointer (some ⟨X, 2, none⟩)
  | 5, v, _ => v = .slice (some ⟨X, 2, none⟩) 32 32
  | 6, v, _ => v = .string (hexS (dgB rb))
  | 7, v, _ => v = .agg (vC 4 false 0 (hexS (dgB rb)) (.slice none 0 0) (.slice none 0 0)).toArray
  | 8, v, _ => v = .pointer (some ⟨X, 1, none⟩)
  | 9, v, _ => v = .int .i64 n
  | 10, v, _ => v = .float .f64 (Fl.wd n)
  | 11, v, _ => v = .int .u64 (Fl.wd n)
  | 12, v, _ => v = .agg (vC 3 false (Fl.wd n) ⟨#[]⟩ (.slice none 0 0) (.slice none 0 0)).toArray
  | 13, v, _ => v = .pointer (some ⟨X, 34, none⟩)
  | 14, v, _ => v = .int .i64 t
  | 15, v, _ => v = .float .f64 (Fl.wd t)
  | 16, v, _ => v = .int .u64 (Fl.wd t)
  | 17, v, _ => v = .agg (vC 3 false (Fl.wd t) ⟨#[]⟩ (.slice none 0 0) (.slice none 0 0)).toArray
  | 18, v, w => ∃ g, v = .slice (some ⟨g, 0, none⟩) 4 4 ∧ Blk w g (headV o (hexS (dgB rb)) n t) 42 ∧ X + 1 < g
  | 19, v, w => ∃ g0 g1, v = .agg (vC 6 false 0 ⟨#[]⟩ (.slice (some ⟨g1, 0, none⟩) 4 4) (.slice (some ⟨g0, 0, none⟩) 4 4)).toArray ∧ Blk w g0 (strs keys4) 9 ∧ Blk w g1 (headV o (hexS (dgB rb)) n t) 42 ∧ X + 1 < g0 ∧ X + 1 < g1
  | 20, _, w => ∃ g0 g1, Blk w (X + 1) (vC 6 false 0 ⟨#[]⟩ (.slice (some ⟨g1, 0, none⟩) 4 4) (.slice (some ⟨g0, 0, none⟩) 4 4)) 42 ∧ Blk w g0 (strs keys4) 9 ∧ Blk w g1 (headV o (hexS (dgB rb)) n t) 42 ∧ X + 1 < g0 ∧ X + 1 < g1
  | _, _, _ => True

def TellI (w0 : World) (X : Nat) (cs : List Value) (w : World) : Prop := Chg w0 w [] ∧ w0.heap.size = X ∧ Blk w X cs 25 ∧ ∃ ds, ds.length = 6 ∧ Blk w (X + 1) ds 42

def TellS (X : Nat) (i : Nat) (w w' : World) : Prop := Chg w w' (if i = 20 then [X + 1] else [])

theorem TellV.stable (X : Nat) (o : ByteArray) (n t : Nat) (rb : List UInt8) (i j : Nat) (v : Value) (w w' : World) (hj : j ≠ i) (h : TellV X o n t rb j v w) (hs : TellS X i w w') : TellV X o n t rb j v w' := by
  unfold TellS at hs
  have hne : ∀ g, X + 1 < g → g ∉ (if i = 20 then [X + 1] else []) := by
    intro g hg
    split <;> simp
    omega
  match j, hj, h with
  | 0, _, ⟨g, h1, h2, h3⟩ => exact ⟨g, h1, h2.kept hs (hne g h3), h3⟩
  | 1, _, h | 2, _, h | 3, _, h | 4, _, h | 5, _, h | 6, _, h | 7, _, h | 8, _, h | 9, _, h | 10, _, h | 11, _, h | 12, _, h | 13, _, h | 14, _, h | 15, _, h | 16, _, h | 17, _, h => exact h
  | 18, _, ⟨g, h1, h2, h3⟩ => exact ⟨g, h1, h2.kept hs (hne g h3), h3⟩
  | 19, _, ⟨g0, g1, h1, h2, h3, h4, h5⟩ => exact ⟨g0, g1, h1, h2.kept hs (hne g0 h4), h3.kept hs (hne g1 h5), h4, h5⟩
  | 20, hj, ⟨g0, g1, h1, h2, h3, h4, h5⟩ => exact ⟨g0, g1, h1.kept hs (by rw [if_neg (fun e => hj e.symm)]; simp), h2.kept hs (hne g0 h4), h3.kept hs (hne g1 h5), h4, h5⟩
  | _ + 21, _, _ => exact trivial

set_option maxRecDepth 100000 in
set_option maxHeartbeats 8000000 in
theorem r30_Tell (o : ByteArray) (n t : Nat) (rb : List UInt8) (hr : rb.length = 32) (hn : n < 9007199254740992) (ht : t < 9007199254740992) (w : World) :
    Calls Tryz.prog 11 #[.agg (hdL o n rb t).toArray] w (RTellPost o n t rb w) := by
  have hcb := hdL_cells o n rb t
  have hW : Hid (∀ wx, wx.rangeAt w.heap.size 2 (rb.map byV) → Calls Tryz.prog 37 #[.int .i64 1, .slice (some ⟨w.heap.size, 2, none⟩) 32 32] wx fun e w' => e = .returned (.string (hexS (dgB rb))) ∧ Chg wx w' []) := Lib.hid (by
    intro wx h
    have h1 := r6_Write (dgB rb) w.heap.size 2 32 wx (fun i hi => by
      rw [dgB_size] at hi
      rw [dgB_byte rb i hi]
      exact h i _ (by rw [List.getElem?_map, List.getElem?_eq_getElem hi]; rfl)) (by rw [dgB_size, hr]; omega) (by rw [dgB_size, hr]; omega)
    rwa [dgB_size, hr] at h1)
  have hN : Hid (∀ k, k < 9007199254740992 → ∀ wx, Calls Tryz.prog 38 #[.int .u64 (Fl.wd k)] wx fun e w' => e = .returned (.agg (vC 3 false (Fl.wd k) ⟨#[]⟩ (.slice none 0 0) (.slice none 0 0)).toArray) ∧ Chg wx w' []) := Lib.hid (by
    intro k hk wx
    have h1 := r10_Num (Fl.wd k) wx
    rwa [show numB (Fl.wd k) = Fl.wd k from by unfold numB; rw [if_neg (by have := Fl.wd_lt hk; omega)]] at h1)
  go_enter Tryz.func11, Tryz.ntmps11
  go_wp2
  refine wp_region_any (by kernel_rfl) ?_
  change wpAny _ _ _ _ _ _ _ (World.drew _)
  refine wpAny_each _ (TellI w w.heap.size (hdL o n rb t)) (TellV w.heap.size o n t rb) (TellS w.heap.size) (by kernel_rfl) (TellV.stable _ _ _ _ _) ?_ ?_ _ ?_
  · intro i op a wa ho hF hI hpre K hK
    have h1 : a.tmps.getD 1 undef = .pointer (some ⟨w.heap.size, 0, none⟩) := hF.at 1 (by kernel_rfl)
    have h2 : a.tmps.getD 2 undef = .pointer (some ⟨w.heap.size + 1, 0, none⟩) := hF.at 2 (by kernel_rfl)
    obtain ⟨hg, hX, hB, ds, hds, hD⟩ := hI
    obtain ⟨c0, c1, c34, hrg⟩ := hB.head hr
    have HI' : ∀ w', Chg wa w' [] → TellI w w.heap.size (hdL o n rb t) w' := fun w' h => ⟨hg.trans h, rfl, hB.kept h (by simp), ds, hds, hD.kept h (by simp)⟩
    match i, ho with
    | 0, ho =>
      obtain rfl := Option.some.inj ho
      go_simp
      exact hK _ _ (by simp) ⟨wa.heap.size, rfl, Blk.new wa (strs keys4) _, by have := hD.lt; omega⟩ ((Chg.refl wa []).alloc _) (HI' _ ((Chg.refl wa []).alloc _))
    | 1, ho =>
      obtain rfl := Option.some.inj ho
      go_simp
      exact hK _ _ (by simp) rfl (Chg.refl _ _) (HI' _ (Chg.refl _ _))
    | 2, ho =>
      obtain rfl := Option.some.inj ho
      have h4 : a.tmps.getD 4 undef = .pointer (some ⟨w.heap.size, 0, none⟩) := hpre ⟨1, .data⟩ (by simp) rfl
      go_simp
      exact hK _ _ (by simp) rfl (Chg.refl _ _) (HI' _ (Chg.refl _ _))
    | 3, ho =>
      obtain rfl := Option.some.inj ho
      have h5 : a.tmps.getD 5 undef = .string o := hpre ⟨2, .data⟩ (by simp) rfl
      go_simp
      go_at_call 36
      refine (r30_text o _).mono ?_
      rintro e w1 ⟨rfl, hg1⟩
      exact hK _ _ (by simp) rfl hg1 (HI' _ hg1)
    | 4, ho =>
      obtain rfl := Option.some.inj ho
      go_simp
      exact hK _ _ (by simp) rfl (Chg.refl _ _) (HI' _ (Chg.refl _ _))
    | 5, ho =>
      obtain rfl := Option.some.inj ho
      have h7 : a.tmps.getD 7 undef = .pointer (some ⟨w.heap.size, 2, none⟩) := hpre ⟨4, .data⟩ (by simp) rfl
      go_simp
      exact hK _ _ (by simp) rfl (Chg.refl _ _) (HI' _ (Chg.refl _ _))
    | 6, ho =>
      obtain rfl := Option.some.inj ho
      have h8 : a.tmps.getD 8 undef = .slice (some ⟨w.heap.size, 2, none⟩) 32 32 := hpre ⟨5, .data⟩ (by simp) rfl
      have HWR := hW.out wa hrg
      go_simp
      go_at_call 37
      refine (HWR).mono ?_
      rintro e w1 ⟨rfl, hg1⟩
      exact hK _ _ (by simp) rfl hg1 (HI' _ hg1)
    | 7, ho =>
      obtain rfl := Option.some.inj ho
      have h9 : a.tmps.getD 9 undef = .string (hexS (dgB rb)) := hpre ⟨6, .data⟩ (by simp) rfl
      go_simp
      go_at_call 36
      refine (r30_text (hexS (dgB rb)) _).mono ?_
      rintro e w1 ⟨rfl, hg1⟩
      exact hK _ _ (by simp) rfl hg1 (HI' _ hg1)
    | 8, ho =>
      obtain rfl := Option.some.inj ho
      go_simp
      exact hK _ _ (by simp) rfl (Chg.refl _ _) (HI' _ (Chg.refl _ _))
    | 9, ho =>
      obtain rfl := Option.some.inj ho
      have h11 : a.tmps.getD 11 undef = .pointer (some ⟨w.heap.size, 1, none⟩) := hpre ⟨8, .data⟩ (by simp) rfl
      go_simp
      exact hK _ _ (by simp) rfl (Chg.refl _ _) (HI' _ (Chg.refl _ _))
    | 10, ho =>
      obtain rfl := Option.some.inj ho
      have h12 : a.tmps.getD 12 undef = .int .i64 n := hpre ⟨9, .data⟩ (by simp) rfl
      have hf := floatOfInt_nat n
      go_simp
      exact hK _ _ (by simp) rfl (Chg.refl _ _) (HI' _ (Chg.refl _ _))
    | 11, ho =>
      obtain rfl := Option.some.inj ho
      have h13 : a.tmps.getD 13 undef = .float .f64 (Fl.wd n) := hpre ⟨10, .data⟩ (by simp) rfl
      have htb := run_tobits
      go_simp
      exact hK _ _ (by simp) rfl (Chg.refl _ _) (HI' _ (Chg.refl _ _))
    | 12, ho =>
      obtain rfl := Option.some.inj ho
      have h14 : a.tmps.getD 14 undef = .int .u64 (Fl.wd n) := hpre ⟨11, .data⟩ (by simp) rfl
      go_simp
      go_at_call 38
      refine (hN.out n hn _).mono ?_
      rintro e w1 ⟨rfl, hg1⟩
      exact hK _ _ (by simp) rfl hg1 (HI' _ hg1)
    | 13, ho =>
      obtain rfl := Option.some.inj ho
      go_simp
      exact hK _ _ (by simp) rfl (Chg.refl _ _) (HI' _ (Chg.refl _ _))
    | 14, ho =>
      obtain rfl := Option.some.inj ho
      have h16 : a.tmps.getD 16 undef = .pointer (some ⟨w.heap.size, 34, none⟩) := hpre ⟨13, .data⟩ (by simp) rfl
      go_simp
      exact hK _ _ (by simp) rfl (Chg.refl _ _) (HI' _ (Chg.refl _ _))
    | 15, ho =>
      obtain rfl := Option.some.inj ho
      have h17 : a.tmps.getD 17 undef = .int .i64 t := hpre ⟨14, .data⟩ (by simp) rfl
      have hf := floatOfInt_nat t
      go_simp
      exact hK _ _ (by simp) rfl (Chg.refl _ _) (HI' _ (Chg.refl _ _))
    | 16, ho =>
      obtain rfl := Option.some.inj ho
      have h18 : a.tmps.getD 18 undef = .float .f64 (Fl.wd t) := hpre ⟨15, .data⟩ (by simp) rfl
      have htb := run_tobits
      go_simp
      exact hK _ _ (by simp) rfl (Chg.refl _ _) (HI' _ (Chg.refl _ _))
    | 17, ho =>
      obtain rfl := Option.some.inj ho
      have h19 : a.tmps.getD 19 undef = .int .u64 (Fl.wd t) := hpre ⟨16, .data⟩ (by simp) rfl
      go_simp
      go_at_call 38
      refine (hN.out t ht _).mono ?_
      rintro e w1 ⟨rfl, hg1⟩
      exact hK _ _ (by simp) rfl hg1 (HI' _ hg1)
    | 18, ho =>
      obtain rfl := Option.some.inj ho
      have h6 : a.tmps.getD 6 undef = .agg (vC 4 false 0 o (.slice none 0 0) (.slice none 0 0)).toArray := hpre ⟨3, .data⟩ (by simp) rfl
      have h10 : a.tmps.getD 10 undef = .agg (vC 4 false 0 (hexS (dgB rb)) (.slice none 0 0) (.slice none 0 0)).toArray := hpre ⟨7, .data⟩ (by simp) rfl
      have h15 : a.tmps.getD 15 undef = .agg (vC 3 false (Fl.wd n) ⟨#[]⟩ (.slice none 0 0) (.slice none 0 0)).toArray := hpre ⟨12, .data⟩ (by simp) rfl
      have h20 : a.tmps.getD 20 undef = .agg (vC 3 false (Fl.wd t) ⟨#[]⟩ (.slice none 0 0) (.slice none 0 0)).toArray := hpre ⟨17, .data⟩ (by simp) rfl
      simp only [vC_arr] at h6 h10 h15 h20
      rw [Array.getD_eq_getD_getElem?] at h6 h10 h15 h20
      go_simp
      exact hK _ _ (by simp) ⟨wa.heap.size, rfl, Blk.new wa (headV o (hexS (dgB rb)) n t) _, by have := hD.lt; omega⟩ ((Chg.refl wa []).alloc _) (HI' _ ((Chg.refl wa []).alloc _))
    | 19, ho =>
      obtain rfl := Option.some.inj ho
      obtain ⟨g0, h3, hb0, hl0⟩ : TellV w.heap.size o n t rb 0 (a.tmps.getD 3 undef) wa := hpre ⟨0, .data⟩ (by simp) rfl
      obtain ⟨g1, h21, hb1, hl1⟩ : TellV w.heap.size o n t rb 18 (a.tmps.getD 21 undef) wa := hpre ⟨18, .data⟩ (by simp) rfl
      rw [Array.getD_eq_getD_getElem?] at h3 h21
      go_simp
      exact hK _ _ (by simp) ⟨g0, g1, rfl, hb0, hb1, hl0, hl1⟩ (Chg.refl _ _) (HI' _ (Chg.refl _ _))
    | 20, ho =>
      obtain rfl := Option.some.inj ho
      obtain ⟨g0, g1, h22, hb0, hb1, hl0, hl1⟩ : TellV w.heap.size o n t rb 19 (a.tmps.getD 22 undef) wa := hpre ⟨19, .data⟩ (by simp) rfl
      rw [vC_arr] at h22
      obtain ⟨d0, d1, d2, d3, d4, d5, rfl⟩ : ∃ d0 d1 d2 d3 d4 d5, ds = [d0, d1, d2, d3, d4, d5] := by
        match ds, hds with
        | [d0, d1, d2, d3, d4, d5], _ => exact ⟨d0, d1, d2, d3, d4, d5, rfl⟩
      obtain ⟨ql, qf, q0, q1, q2, q3, q4, q5⟩ := hD.cells6
      go_simp
      have hgl : ∀ g, w.heap.size + 1 < g → w.heap.size + 1 ≠ g := fun g h => by omega
      refine hK undef _ (fun _ => rfl) ⟨g0, g1, (((((hD.set 0 _).set 1 _).set 2 _).set 3 _).set 4 _).set 5 _, ?_, ?_, hl0, hl1⟩ ?_ ⟨?_, rfl, ?_, _, rfl, (((((hD.set 0 _).set 1 _).set 2 _).set 3 _).set 4 _).set 5 _⟩
      · exact (((((hb0.set_other _ _ (hgl _ hl0)).set_other _ _ (hgl _ hl0)).set_other _ _ (hgl _ hl0)).set_other _ _ (hgl _ hl0)).set_other _ _ (hgl _ hl0)).set_other _ _ (hgl _ hl0)
      · exact (((((hb1.set_other _ _ (hgl _ hl1)).set_other _ _ (hgl _ hl1)).set_other _ _ (hgl _ hl1)).set_other _ _ (hgl _ hl1)).set_other _ _ (hgl _ hl1)).set_other _ _ (hgl _ hl1)
      · show Chg _ _ [w.heap.size + 1]
        exact ((((((Chg.refl _ _).setCell _ _ (by simp)).setCell _ _ (by simp)).setCell _ _ (by simp)).setCell _ _ (by simp)).setCell _ _ (by simp)).setCell _ _ (by simp)
      · exact (((((hg.setCell _ _ (by simp)).setCell _ _ (by simp)).setCell _ _ (by simp)).setCell _ _ (by simp)).setCell _ _ (by simp)).setCell _ _ (by simp)
      · exact (((((hB.set_other _ _ (by simp)).set_other _ _ (by simp)).set_other _ _ (by simp)).set_other _ _ (by simp)).set_other _ _ (by simp)).set_other _ _ (by simp)
    | k + 21, ho => exact absurd ho (by simp)
  · intro a wa hF hI hV
    obtain ⟨g0, g1, hb, hb0, hb1, _, _⟩ : TellV w.heap.size o n t rb 20 undef wa := hV 20 (by decide)
    have h2 : a.tmps.getD 2 undef = .pointer (some ⟨w.heap.size + 1, 0, none⟩) := hF.at 2 (by kernel_rfl)
    obtain ⟨hg, _⟩ := hI
    go_wp2
    exact bodyPost_ret (results_blk rfl _ _ (w.heap.size + 1) 42 _ _ h2 hb Tryz.underlying42 rfl info_val) hF.defers ⟨g0, g1, rfl, hb0, hb1, hg⟩
  · refine ⟨by (repeat (first | exact Chg.refl _ _ | with_reducible refine Chg.drewN ?_ _ | with_reducible refine Chg.drew ?_ | with_reducible refine Chg.alloc ?_ _ | with_reducible refine Chg.setCell ?_ _ _ (by simp) | with_reducible refine Chg.setCell ?_ _ _ (by simp; omega))), rfl, ?_, vC 0 false 0 ⟨#[]⟩ (.slice none 0 0) (.slice none 0 0), rfl, ?_⟩
    · exact ((Blk.new w (hdL o n rb t) _).alloc _)
    · have h := Blk.new (w.alloc (.cells (hdL o n rb t).toArray 25)) (vC 0 false 0 ⟨#[]⟩ (.slice none 0 0) (.slice none 0 0)) 42
      rw [World.size_alloc] at h
      exact h
end Go.Proofs.YtfdhgakalojahaaGreatDoor

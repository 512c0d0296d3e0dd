/- PLAIN: a head as a value; letters of a digest. -/
import Derived.Laws.Cover2
import Derived.Test.YtfdhgakalojahaaGreatDoorM17
import Derived.Test.YtfdhgakalojahaaGreatDoorM01
import Derived.Test.YtfdhgakalojahaaGreatDoorM05
import Derived.Test.YtfdhgakalojahaaGreatDoorM11
import Derived.Test.YtfdhgakalojahaaGreatDoorM30
set_option linter.unusedSimpArgs false
set_option linter.unusedVariables false
set_option linter.unnecessarySimpa false
set_option linter.unusedSectionVars false
namespace Go.Proofs.YtfdhgakalojahaaGreatDoor
open Go Go.RowKit Tree

theorem right_ascii {s : ByteArray} (h : ∀ i, i < s.size → Utf.byteAt s i < 128) : Utf.rightB s = true := by
  have inv : ∀ k, k ≤ s.size → Utf.Inv s k 0 0 := by
    intro k
    induction k with
    | zero => intro _; exact Utf.inv_start s 0
    | succ k ih =>
      intro hk
      have hb := h k (by omega)
      exact Utf.inv_one (ih (by omega)) (by omega) (by unfold Utf.wideN; rw [if_pos hb]) 0
  exact Utf.inv_end (inv s.size (Nat.le_refl _))

theorem byteAt_nums {xs : List Int} {i : Nat} {x : Int} (h : xs[i]? = some x) (hx : 0 ≤ x ∧ x < 256) : Utf.byteAt (strOfNums xs) i = x.toNat := by
  have hi : i < xs.length := (List.getElem?_eq_some_iff.1 h).1
  have hs : i < (strOfNums xs).size := by rw [strOfNums_size]; exact hi
  rw [Utf.byteAt_eq hs]
  have : (strOfNums xs)[i]'hs = UInt8.ofNat x.toNat := by
    have h1 : (strOfNums xs).data.toList[i]? = some (UInt8.ofNat x.toNat) := by rw [strOfNums_data, List.getElem?_map, h]; rfl
    rw [Array.getElem?_toList] at h1
    have h2 := Array.getElem?_eq_some_iff.1 h1
    exact h2.2
  rw [this, UInt8.toNat_ofNat']
  omega

theorem hexI_get (s : ByteArray) (n i : Nat) (hi : i < 2 * n) : (hexI s n)[i]? = some ((hexD (nib s i) : Nat) : Int) := by
  have h := hexV_get s n i hi
  rw [← hexI_V, List.getElem?_map] at h
  cases hx : (hexI s n)[i]? with
  | none => rw [hx] at h; simp at h
  | some x => rw [hx] at h; simp at h; rw [h]

theorem hexI_length (s : ByteArray) (n : Nat) : (hexI s n).length = 2 * n := by
  have h := congrArg List.length (hexI_V s n)
  rwa [List.length_map, hexV_length] at h

theorem hexD_lt {n : Nat} (h : n < 16) : 48 ≤ hexD n ∧ hexD n < 128 := by unfold hexD; split <;> omega

theorem hexS_size (s : ByteArray) : (hexS s).size = 2 * s.size := by unfold hexS; rw [strOfNums_size, hexI_length]

theorem hexS_byte (s : ByteArray) (i : Nat) (hi : i < 2 * s.size) : Utf.byteAt (hexS s) i = hexD (nib s i) := by
  have h := hexD_lt (nib_lt s i)
  have := byteAt_nums (hexI_get s s.size i hi) (by omega)
  rw [show hexS s = strOfNums (hexI s s.size) from rfl, this]
  omega

theorem hexS_right (s : ByteArray) : Utf.rightB (hexS s) = true :=
  right_ascii fun i hi => by
    rw [hexS_size] at hi
    rw [hexS_byte s i hi]
    exact (hexD_lt (nib_lt s i)).2

/-- a digest as a text of bytes -/
def dgB (rb : List UInt8) : ByteArray := ⟨rb.toArray⟩

theorem dgB_nums (rb : List UInt8) : strOfNums (rb.map fun b => (b.toNat : Int)) = dgB rb := by
  unfold strOfNums dgB
  rw [List.map_map]
  congr 2
  have : ((fun n : Int => UInt8.ofNat n.toNat) ∘ fun b : UInt8 => (b.toNat : Int)) = id := by
    funext b
    simp
  rw [this, List.map_id]

theorem dgB_size (rb : List UInt8) : (dgB rb).size = rb.length := by unfold dgB; simp [ByteArray.size]

def kO : ByteArray := ⟨#[111, 114, 105, 103, 105, 110]⟩
def kR : ByteArray := ⟨#[114, 111, 111, 116]⟩
def kS : ByteArray := ⟨#[115, 105, 122, 101]⟩
def kT : ByteArray := ⟨#[116, 105, 109, 101]⟩
def keys4 : List ByteArray := [kO, kR, kS, kT]

theorem sort_keys4 : sortK keys4 = keys4 := by
  unfold sortK
  refine List.mergeSort_of_pairwise ?_
  have h01 : (!decide (Utf.cmpR kR kO < 0)) = true := by kernel_rfl
  have h02 : (!decide (Utf.cmpR kS kO < 0)) = true := by kernel_rfl
  have h03 : (!decide (Utf.cmpR kT kO < 0)) = true := by kernel_rfl
  have h12 : (!decide (Utf.cmpR kS kR < 0)) = true := by kernel_rfl
  have h13 : (!decide (Utf.cmpR kT kR < 0)) = true := by kernel_rfl
  have h23 : (!decide (Utf.cmpR kT kS < 0)) = true := by kernel_rfl
  refine .cons ?_ (.cons ?_ (.cons ?_ (.cons ?_ .nil)))
  all_goals
    intro a ha
    simp only [List.mem_cons, List.not_mem_nil, or_false] at ha
  · rcases ha with rfl | rfl | rfl <;> assumption
  · rcases ha with rfl | rfl <;> assumption
  · rcases ha with rfl; assumption

theorem place_keys4 : keys4.map (place keys4) = [0, 1, 2, 3] := by kernel_rfl

theorem objT_keys4 (a b c d : Tr) : objT keys4 [a, b, c, d] = .obj keys4 [a, b, c, d] := by
  unfold objT objL
  rw [sort_keys4]
  have h := place_keys4
  simp only [keys4, List.map_cons, List.map_nil, List.cons.injEq, and_true] at h
  obtain ⟨h0, h1, h2, h3⟩ := h
  simp only [keys4, List.map_cons, List.map_nil]
  rw [h0, h1, h2, h3]
  rfl

theorem keys4_right : ∀ s ∈ keys4, Utf.rightB s = true := by
  intro s hs
  simp only [keys4, List.mem_cons, List.not_mem_nil, or_false] at hs
  rcases hs with rfl | rfl | rfl | rfl <;> kernel_rfl

theorem keys4_small : ∀ s ∈ keys4, s.size ≤ 2147483648 := by
  intro s hs
  simp only [keys4, List.mem_cons, List.not_mem_nil, or_false] at hs
  rcases hs with rfl | rfl | rfl | rfl <;> decide

theorem keys4_nodup : keys4.Nodup := by decide

/-- a head's value -/
def headT (o h : ByteArray) (n t : Nat) : Tr := .obj keys4 [.text o, .text h, .num (Fl.wd n), .num (Fl.wd t)]

theorem headT_sz (o h : ByteArray) (n t : Nat) : szT (headT o h n t) = ⟨5, o.size + h.size + 18, 2⟩ := by
  unfold headT
  simp only [szT, szL, Sz.over, Sz.add]
  congr 1
  · show bytesOf keys4 + _ = _
    rw [show bytesOf keys4 = 18 from by kernel_rfl]
    omega

theorem normB_wd {k : Nat} (h : k < 9007199254740992) : normB (Fl.wd k) = Fl.wd k := by
  unfold normB
  rw [Fl.rung_wd h]
  split
  · omega
  · rfl

theorem floatOfInt_nat (k : Nat) : floatOfInt .f64 (k : Int) = Fl.wd k := by
  unfold floatOfInt FloatKind.nearest FloatKind.encode FloatKind.format Fl.wd Ieee.Format.write
  simp only [Int.natAbs_natCast]
  rw [decide_eq_false (by omega)]
end Go.Proofs.YtfdhgakalojahaaGreatDoor

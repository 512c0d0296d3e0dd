/- LAWS: for reading a head out of its value. -/
import Derived.Test.YtfdhgakalojahaaGreatDoorM20
import Derived.Test.YtfdhgakalojahaaGreatDoorM31
import Derived.Test.YtfdhgakalojahaaGreatDoorM38
import Derived.Test.YtfdhgakalojahaaGreatDoorM32
set_option linter.unusedSimpArgs false
set_option linter.unusedVariables false
set_option linter.unnecessarySimpa false
set_option linter.unusedSectionVars false
namespace Go.Proofs.YtfdhgakalojahaaGreatDoor
open Go Go.RowKit Tree

theorem hexNum_hexD {n : Nat} (h : n < 16) : hexNum (hexD n) = n := hexNum_of h rfl

theorem hexOK_hexS (s : ByteArray) : hexOK (hexS s) = true := by
  unfold hexOK
  rw [Bool.and_eq_true]
  refine ⟨decide_eq_true (by rw [hexS_size]; omega), List.all_eq_true.2 fun i hi => decide_eq_true ?_⟩
  rw [List.mem_range, hexS_size] at hi
  rw [hexS_byte s i hi, hexNum_hexD (nib_lt s i)]
  omega

theorem unhexB_hexS (s : ByteArray) (j : Nat) (hj : j < s.size) : unhexB (hexS s) j = Utf.byteAt s j := by
  unfold unhexB
  rw [hexS_byte s _ (by omega), hexS_byte s _ (by omega), hexNum_hexD (nib_lt s _), hexNum_hexD (nib_lt s _)]
  unfold nib
  rw [if_pos (by omega), if_neg (by omega), show 2 * j / 2 = j from by omega, show (2 * j + 1) / 2 = j from by omega]
  omega

theorem unhexV_dg (rb : List UInt8) (hr : rb.length = 32) : unhexV (hexS (dgB rb)) 32 = rb.map byV := by
  apply List.ext_getElem?
  intro i
  by_cases hi : i < 32
  · have hi' : i < rb.length := by omega
    unfold unhexV
    rw [List.getElem?_map, List.getElem?_range hi, List.getElem?_map, List.getElem?_eq_getElem hi']
    simp only [Option.map_some]
    rw [unhexB_hexS _ _ (by rw [dgB_size]; omega), dgB_byte rb i hi']
    rfl
  · rw [List.getElem?_eq_none (by rw [unhexV_length]; omega), List.getElem?_eq_none (by rw [List.length_map]; omega)]

theorem digOK_dg (rb : List UInt8) (hr : rb.length = 32) : digOK (hexS (dgB rb)) = true := by
  unfold digOK
  rw [hexOK_hexS, hexS_size, dgB_size, hr]; rfl

theorem keys4_ok : KeysOK keys4 := by
  refine ⟨keys4_right, keys4_small, ?_, by decide⟩
  have h01 : decide (Utf.cmpR kO kR < 0) = true := by kernel_rfl
  have h02 : decide (Utf.cmpR kO kS < 0) = true := by kernel_rfl
  have h03 : decide (Utf.cmpR kO kT < 0) = true := by kernel_rfl
  have h12 : decide (Utf.cmpR kR kS < 0) = true := by kernel_rfl
  have h13 : decide (Utf.cmpR kR kT < 0) = true := by kernel_rfl
  have h23 : decide (Utf.cmpR kS kT < 0) = true := by kernel_rfl
  simp only [decide_eq_true_eq] at h01 h02 h03 h12 h13 h23
  refine .cons ?_ (.cons ?_ (.cons ?_ (.cons ?_ .nil)))
  all_goals
    intro a ha
    simp only [List.mem_cons, List.not_mem_nil, or_false] at ha
  · rcases ha with rfl | rfl | rfl <;> assumption
  · rcases ha with rfl | rfl <;> assumption
  · rcases ha with rfl; assumption

/-- a key of the four is found -/
theorem find_head (F : Nat → Prop) (a b c d : Tr) (v : Value) (j : Nat) (key : ByteArray) (u : Tr) (hk : keys4[j]? = some key) (hu : [a, b, c, d][j]? = some u) (w : World) (ht : ItemAt w F (.obj keys4 [a, b, c, d]) v) (hF : ∀ k, F k → k < w.heap.size) :
    Calls Tryz.prog 26 #[.agg #[v], .string key] w fun e w' => ∃ x, e = .returned (.tuple #[.agg #[x], .bool true]) ∧ Chg w w' [] ∧ ItemAt w' F u x := by
  have hm : key ∈ keys4 := List.mem_of_getElem? hk
  refine (ref_Find F (.obj keys4 [a, b, c, d]) v key w ht hF keys4_ok (.inr rfl) (by simp [itemsT]) (keys4_right key hm) (keys4_small key hm)).mono ?_
  rintro e w' ⟨x, ok, rfl, hg, h⟩
  rcases h with ⟨rfl, i, u', h1, h2, h3⟩ | ⟨_, _, h⟩
  · have hi : i < keys4.length := (List.getElem?_eq_some_iff.1 h1).1
    have hij : i = j := (List.getElem?_inj hi keys4_nodup).1 (h1.trans hk.symm)
    subst hij
    simp only [itemsT] at h2
    rw [hu] at h2
    injection h2 with h2
    subst h2
    exact ⟨x, rfl, hg, h3⟩
  · exact absurd hm h

/-- cells set in a row -/
def setL : List Value → Nat → List Value → List Value
  | cs, _, [] => cs
  | cs, o, v :: r => setL (cs.set o v) (o + 1) r

theorem setL_length : ∀ (vs cs : List Value) (o : Nat), (setL cs o vs).length = cs.length
  | [], _, _ => rfl
  | v :: r, cs, o => by simp only [setL]; rw [setL_length r]; simp

theorem setL_get : ∀ (vs cs : List Value) (o i : Nat), (setL cs o vs)[i]? = if i < cs.length then (if o ≤ i ∧ i < o + vs.length then vs[i - o]? else cs[i]?) else none
  | [], cs, o, i => by
    simp only [setL, List.length_nil]
    by_cases hl : i < cs.length
    · rw [if_pos hl, if_neg (by omega)]
    · rw [if_neg hl]; exact List.getElem?_eq_none (by omega)
  | v :: r, cs, o, i => by
    simp only [setL]
    rw [setL_get r, List.length_set]
    by_cases hl : i < cs.length
    · rw [if_pos hl, if_pos hl]
      by_cases h1 : o + 1 ≤ i ∧ i < o + 1 + r.length
      · rw [if_pos h1, if_pos (by simp; omega), show i - o = (i - (o + 1)) + 1 from by omega]; rfl
      · rw [if_neg h1, List.getElem?_set]
        by_cases h2 : o = i
        · subst h2
          rw [if_pos rfl, if_pos hl, if_pos (by simp), Nat.sub_self]; rfl
        · rw [if_neg h2, if_neg (by simp; omega)]
    · rw [if_neg hl, if_neg hl]

theorem Blk.setCells : ∀ (vs : List Value) {w : World} {b : Nat} {cs : List Value} {T : TypeId} (_ : Blk w b cs T) (o : Nat), Blk (w.setCells b o vs) b (setL cs o vs) T
  | [], _, _, _, _, h, _ => h
  | v :: r, _, _, _, _, h, o => by
    rw [World.setCells]
    exact Blk.setCells r (h.set o v) (o + 1)

theorem Chg.setCells : ∀ (vs : List Value) (w : World) (b o : Nat), Chg w (w.setCells b o vs) [b]
  | [], w, _, _ => Chg.none (Chg.refl _ _) _
  | v :: r, w, b, o => by
    rw [World.setCells]
    exact ((Chg.refl w [b]).setCell ⟨b, o, Option.none⟩ v (by simp)).trans (Chg.setCells r _ b (o + 1))

def z32 : List UInt8 := List.replicate 32 0

theorem hdL_set0 (o o' : ByteArray) (n : Int) (rb : List UInt8) (t : Int) : (hdL o n rb t).set 0 (.string o') = hdL o' n rb t := rfl
theorem hdL_set1 (o : ByteArray) (n n' : Int) (rb : List UInt8) (t : Int) : (hdL o n rb t).set 1 (.int .i64 n') = hdL o n' rb t := rfl
theorem hdL_set34 (o : ByteArray) (n : Int) (rb : List UInt8) (hr : rb.length = 32) (t t' : Int) : (hdL o n rb t).set 34 (.int .i64 t') = hdL o n rb t' := by
  unfold hdL
  rw [List.set_append_right _ _ (by simp; omega)]
  simp [hr]
theorem hdL_setD (o : ByteArray) (n : Int) (rb rb' : List UInt8) (hr : rb.length = 32) (hr' : rb'.length = 32) (t : Int) : setL (hdL o n rb t) 2 (rb'.map byV) = hdL o n rb' t := by
  apply List.ext_getElem?
  intro i
  rw [setL_get, hdL_length, hr, List.length_map, hr']
  by_cases hl : i < 35
  · rw [if_pos hl]
    by_cases h1 : 2 ≤ i ∧ i < 34
    · rw [if_pos h1]
      have hi : i - 2 < (rb'.map byV).length := by rw [List.length_map]; omega
      have h2 := hdL_2 o n rb' t (i - 2) _ (List.getElem?_eq_getElem hi)
      rw [show 2 + (i - 2) = i from by omega] at h2
      rw [h2, List.getElem?_eq_getElem hi]
    · rw [if_neg h1]
      have : i = 0 ∨ i = 1 ∨ i = 34 := by omega
      rcases this with rfl | rfl | rfl
      · rfl
      · rfl
      · rw [hdL_34 _ _ _ _ hr, hdL_34 _ _ _ _ hr']
  · rw [if_neg hl, List.getElem?_eq_none (by rw [hdL_length]; omega)]

theorem run_neq_bytes {P : Program} (w : World) (t e : TypeId) (n : Nat) (ht : P.underlying t = some (.array n e)) (he : P.underlying e = some (.int .u8)) (hsz : ∀ w, (sizeOf e).run P w = .ok 1 w)
    (xs ys : List UInt8) (hx : xs.length = n) (hy : ys.length = n) :
    (binOp .neq t (.agg (xs.map byV).toArray) (.agg (ys.map byV).toArray)).run P w = .ok (.bool (!(xs == ys))) w := by
  rw [run_neq_struct, run_equalIn_bytes w 9998 t e n ht he hsz xs ys hx hy]
  rfl

/-- blocks that are known whole -/
def Bs (w : World) (L : List (Nat × List Value × TypeId)) : Prop := ∀ p ∈ L, Blk w p.1 p.2.1 p.2.2

theorem Bs.kept {w w' : World} {L : List (Nat × List Value × TypeId)} (h : Bs w L) (hg : Chg w w' []) : Bs w' L := fun p hp => (h p hp).kept hg (by simp)
theorem Bs.new {w : World} {L : List (Nat × List Value × TypeId)} (h : Bs w L) (cs : List Value) (T : TypeId) : Bs (w.alloc (.cells cs.toArray T)) ((w.heap.size, cs, T) :: L) := fun p hp => by
  rcases List.mem_cons.1 hp with rfl | hp
  · exact Blk.new w cs T
  · exact (h p hp).alloc _
end Go.Proofs.YtfdhgakalojahaaGreatDoor

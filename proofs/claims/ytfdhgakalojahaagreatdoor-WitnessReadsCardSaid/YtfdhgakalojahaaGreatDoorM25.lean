/- MEMORY: a map from texts to their places, of the call's own. -/
import Derived.Maps.OwnSet
import Derived.Maps.OwnOps
import Derived.Maps.Views
import Derived.StringKeys
import Derived.Test.YtfdhgakalojahaaGreatDoorRows
import Derived.Test.YtfdhgakalojahaaGreatDoorM07
set_option linter.unusedSimpArgs false
set_option linter.unusedVariables false
set_option linter.unnecessarySimpa false
set_option linter.unusedSectionVars false
namespace Go.Proofs.YtfdhgakalojahaaGreatDoor
open Go Go.RowKit Go.Maps Go.WideMaps

def keyL (s : ByteArray) : Lit := .string s.data.toList

theorem keyL_inj {s t : ByteArray} (h : keyL s = keyL t) : s = t := by
  unfold keyL at h
  injection h with h
  cases s with | mk a => cases t with | mk b => cases a; cases b; simp_all

/-- block m is a map that says of the first k texts of ks their places -/
def IxAt (w : World) (m : Nat) (ks : List ByteArray) (k : Nat) : Prop :=
  ∃ D : DataW Nat, w.ownsMap Tryz.prog 9 (plainElem Tryz.prog 3) m k D ∧ IsMap D ∧ (∀ s, Maps.has D (keyL s) = true ↔ s ∈ ks.take k) ∧
    ∀ j s, j < k → ks[j]? = some s → D.atKey (keyL s) (.lit (.int .i64 0)) = .lit (.int .i64 j)

theorem strKeyed : Maps.Keyed Tryz.prog 9 := string_keyed Tryz.underlying9

theorem keyL_ok {s : ByteArray} (hs : s.size ≤ maxLen) : keyOf Tryz.prog 9 (.string s) = some (keyL s) := keyOf_string_mk Tryz.underlying9 hs

theorem IxAt.made (w : World) (ks : List ByteArray) : IxAt (w.alloc (.map #[] 0)) w.heap.size ks 0 :=
  ⟨.map [], World.ownsMap_made _ _ _ _, Maps.isMap_empty, fun s => by simp [Maps.has_eq], fun j s h => by omega⟩

theorem IxAt.lt {w : World} {m : Nat} {ks : List ByteArray} {k : Nat} (h : IxAt w m ks k) : m < w.heap.size := by
  obtain ⟨D, h, _⟩ := h; exact h.lt

theorem IxAt.kept {w w' : World} {m : Nat} {ks : List ByteArray} {k : Nat} {bs : List Nat} (h : IxAt w m ks k) (hc : Chg w w' bs) (hn : m ∉ bs) : IxAt w' m ks k := by
  obtain ⟨D, ⟨es, clock, h1, h2⟩, h3⟩ := h
  exact ⟨D, ⟨es, clock, (hc.block m (Array.getElem?_eq_some_iff.1 h1).1 hn).trans h1, h2⟩, h3⟩

theorem IxAt.store {w : World} {m : Nat} {ks : List ByteArray} {k : Nat} {s : ByteArray} (h : IxAt w m ks k) (hk : ks[k]? = some s) (hd : s ∉ ks.take k) (hs : s.size ≤ maxLen) (hn : k ≤ 4294967296) :
    ∃ w', (Instr.mapUpdate 197 (.map (some m)) (.string s) (.int .i64 k)).run Tryz.prog w = .ok () w' ∧ IxAt w' m ks (k + 1) ∧ Chg w w' [m] := by
  obtain ⟨D, h1, h2, h3, h4⟩ := h
  obtain ⟨w', hr, g1, g2⟩ := h1.update strKeyed Tryz.underlying197 (by unfold maxLen; omega) (keyL_ok hs) (plainElem_int (H := Nat) Tryz.underlying3 (a := (k : Int)) (WalkArith.wf_i64 (by omega)))
  have hkl : WideAt.IsKeyLit (keyL s) := trivial
  refine ⟨w', hr, ⟨_, g1, h2.put _ _, fun t => ?_, fun j t hj ht => ?_⟩, ⟨g2.os, g2.tape, g2.output, g2.size, run_drawn _ _ _ _ hr, fun i hi hm => g2.block i hi fun e => hm (by simpa using e)⟩⟩
  · rw [List.take_add_one, hk]
    by_cases e : t = s
    · subst e
      simp [Maps.has_put_same h2 hkl]
    · rw [Maps.has_put_other (fun h => e (keyL_inj h))]
      rw [h3]
      simp [e]
  · by_cases e : t = s
    · subst e
      have : j = k := by
        by_cases hjk : j = k
        · exact hjk
        · exact absurd (List.mem_iff_getElem?.2 ⟨j, by rw [List.getElem?_take]; simp [show j < k by omega, ht]⟩) hd
      subst this
      exact Maps.atKey_put_same h2 hkl _ _
    · rw [Maps.atKey_put_other (fun h => e (keyL_inj h))]
      refine h4 j t ?_ ht
      have : j ≠ k := by rintro rfl; rw [hk] at ht; injection ht with ht; exact e ht.symm
      omega

theorem zeroInt (w : World) : (zeroValue 3).run Tryz.prog w = .ok (.int .i64 0) w := by kernel_rfl

/-- is it there? -/
theorem IxAt.look_ok {w : World} {m : Nat} {ks : List ByteArray} {k : Nat} (h : IxAt w m ks k) {s : ByteArray} (hs : s.size ≤ maxLen) (b : Bool) (hb : b = true ↔ s ∈ ks.take k) :
    ∃ c : Int, (Instr.lookup 197 (.map (some m)) (.string s) true).run Tryz.prog w = .ok (.tuple #[.int .i64 c, .bool b]) w := by
  obtain ⟨D, h1, h2, h3, h4⟩ := h
  obtain ⟨v, ps, hr, hv⟩ := h1.look_ok strKeyed Tryz.underlying197 (zeroInt w) (plainElem_int Tryz.underlying3 (by decide)) (keyL_ok hs)
  obtain ⟨c, rfl, _⟩ := plainElem_int_inv Tryz.underlying3 hv
  refine ⟨c, ?_⟩
  rw [hr]
  have : Maps.has D (keyL s) = b := by rw [Bool.eq_iff_iff, h3, hb]
  rw [this]

/-- where? -/
theorem IxAt.look {w : World} {m : Nat} {ks : List ByteArray} {k : Nat} (h : IxAt w m ks k) {s : ByteArray} (hs : s.size ≤ maxLen) {j : Nat} (hj : j < k) (hk : ks[j]? = some s) :
    (Instr.lookup 197 (.map (some m)) (.string s) false).run Tryz.prog w = .ok (.int .i64 j) w := by
  obtain ⟨D, h1, h2, h3, h4⟩ := h
  obtain ⟨c, hr, hc, _⟩ := h1.lookup_int strKeyed Tryz.underlying197 Tryz.underlying3 (zeroInt w) (keyL_ok hs)
  rw [hr]
  have e : c = (j : Int) := by
    have e := hc.symm.trans (h4 j s hj hk)
    simpa using e
  rw [e]

set_option maxRecDepth 100000 in
theorem wpList_mapUpdate_ix {ops : Array Oper} {rest : List Oper} {o : Oper} {a : Act} {Q : Exit → Act → World → Prop} (w : World)
    (hg : o.guard = none) (m x v : Operand) (hop : o.op = Op.mapUpdate 197 m x v)
    (b k : Nat) (ks : List ByteArray) (hm : a.eval m = .map (some b)) (hown : IxAt w b ks k) (s : ByteArray) (hx : a.eval x = .string s) (hv : a.eval v = .int .i64 k)
    (hk : ks[k]? = some s) (hd : s ∉ ks.take k) (hs : s.size ≤ maxLen) (hn : k ≤ 4294967296)
    (hK : ∀ w', IxAt w' b ks (k + 1) → Chg w w' [b] → wpList Tryz.prog ops Q rest (a.put o.dst undef) w') :
    wpList Tryz.prog ops Q (o :: rest) a w := by
  refine wpList_plain hg fun K' hK' => ?_
  obtain ⟨w', hrun, r1, r2⟩ := hown.store hk hd hs hn
  unfold Oper.wp
  simp only [execOp, hop, hm, hx, hv, Sem.run_bind, hrun, Result.andThen_ok, Sem.run_pure]
  exact hK' _ _ (hK w' r1 r2)
end Go.Proofs.YtfdhgakalojahaaGreatDoor

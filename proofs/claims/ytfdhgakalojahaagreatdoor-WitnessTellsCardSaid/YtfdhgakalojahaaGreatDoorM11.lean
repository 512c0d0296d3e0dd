/- PLAIN: a head as cells; the digest of nothing. -/
import Derived.Stop.BytesEq
import Derived.Deep.MidRow
import Derived.Test.YtfdhgakalojahaaGreatDoorM03
import Derived.Test.YtfdhgakalojahaaGreatDoorM02
set_option linter.unusedSimpArgs false
set_option linter.unusedVariables false
set_option linter.unnecessarySimpa false
set_option linter.unusedSectionVars false
namespace Go.Proofs.YtfdhgakalojahaaGreatDoor
open Go Go.RowKit

/-- a byte as a value -/
abbrev byV : UInt8 → Value := Extern.Stop.cell

/-- a head's cells -/
def hdL (o : ByteArray) (n : Int) (rb : List UInt8) (t : Int) : List Value := [.string o, .int .i64 n] ++ rb.map byV ++ [.int .i64 t]

theorem hdL_0 (o : ByteArray) (n : Int) (rb : List UInt8) (t : Int) : (hdL o n rb t)[0]? = some (.string o) := rfl
theorem hdL_1 (o : ByteArray) (n : Int) (rb : List UInt8) (t : Int) : (hdL o n rb t)[1]? = some (.int .i64 n) := rfl
theorem hdL_2 (o : ByteArray) (n : Int) (rb : List UInt8) (t : Int) (j : Nat) (v : Value) (h : (rb.map byV)[j]? = some v) : (hdL o n rb t)[2 + j]? = some v := by
  have hj : j < (rb.map byV).length := (List.getElem?_eq_some_iff.1 h).1
  unfold hdL
  rw [List.getElem?_append_left (by simp at hj ⊢; omega), List.getElem?_append_right (by simp), ← h]
  simp
theorem hdL_34 (o : ByteArray) (n : Int) (rb : List UInt8) (t : Int) (hr : rb.length = 32) : (hdL o n rb t)[34]? = some (.int .i64 t) := by
  unfold hdL
  rw [List.getElem?_append_right (by simp; omega)]
  simp [hr]
theorem hdL_length (o : ByteArray) (n : Int) (rb : List UInt8) (t : Int) : (hdL o n rb t).length = rb.length + 3 := by simp [hdL]
theorem hdL_one (o : ByteArray) (n : Int) (rb : List UInt8) (t : Int) : ∀ v ∈ hdL o n rb t, v.oneCell' = true := by
  intro v hv
  simp only [hdL, List.mem_append, List.mem_cons, List.mem_map, List.not_mem_nil, or_false] at hv
  rcases hv with ((rfl | rfl) | ⟨b, _, rfl⟩) | rfl <;> rfl
theorem hdL_cells (o : ByteArray) (n : Int) (rb : List UInt8) (t : Int) : (Value.agg (hdL o n rb t).toArray).cells = (hdL o n rb t).toArray := rfl

theorem cell_one (rb : List UInt8) : ∀ v ∈ rb.map byV, v.oneCell' = true := by
  intro v hv
  obtain ⟨b, _, rfl⟩ := List.mem_map.1 hv
  rfl

/-- a block that is a head -/
theorem Blk.head {w : World} {b : Nat} {o : ByteArray} {n : Int} {rb : List UInt8} {t : Int} {T : TypeId} (h : Blk w b (hdL o n rb t) T) (hr : rb.length = 32) :
    w.cell? ⟨b, 0, none⟩ = some (.string o) ∧ w.cell? ⟨b, 1, none⟩ = some (.int .i64 n) ∧ w.cell? ⟨b, 34, none⟩ = some (.int .i64 t) ∧ w.rangeAt b 2 (rb.map byV) :=
  ⟨by rw [h.cell, hdL_0], by rw [h.cell, hdL_1], by rw [h.cell, hdL_34 _ _ _ _ hr], fun j v hv => by rw [h.cell, hdL_2 _ _ _ _ _ _ hv]⟩

/-- a whole array loaded by an operation that a guard lets by -/
theorem wpList_load_midG {P : Program} {ops : Array Oper} {rest : List Oper} {op : Oper} {a : Act} {w : World} {Q : Exit → Act → World → Prop} (ty : TypeId) (x : Operand) (ho : op.op = .load ty x)
    (b o : Nat) (hx : a.eval x = .pointer (some ⟨b, o, none⟩)) (cs : List Value) (d : TypeDesc) (hc : w.rangeAt b o cs)
    (hu : P.underlying ty = some d) (hd : d.isRow = true) (hi : (P.info? ty).map (·.size) = some cs.length) (hw : Region.wanted op (yielded ops a.tmps) = true)
    (h : wpList P ops Q rest (a.put op.dst (.agg cs.toArray)) w) : wpList P ops Q (op :: rest) a w :=
  wpList_step fun K hK => by
    simp only [hw, if_true]
    exact wp_load_mid ty x ho b o hx cs d hc hu hd hi (hK _ _ h)

def mayB (ob : Bool) (n t : Int) (e : Bool) : Bool := ob && decide (0 ≤ n) && decide (n ≤ 9007199254740991) && decide (0 ≤ t) && decide (t ≤ 9007199254740991) && (decide (0 < n) || e)
end Go.Proofs.YtfdhgakalojahaaGreatDoor

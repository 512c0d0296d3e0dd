/- WALKS: errors.Is of an api.Trail, over the number that it bears; no memory is touched. WALKS: the law's tells, at a trail. PLAIN: a head as cells; the digest of nothing. LAWS: a slice of one-cell elements that the call itself grows by one element. LAWS: more of slices of the call's own. -/
import Derived.Stop.Asserts
import Derived.LaidEql
import Derived.Test.YtfdhgakalojahaaGreatDoorM06
import Derived.Test.YtfdhgakalojahaaGreatDoorM01
import Derived.Stop.BytesEq
import Derived.Deep.MidRow
import Derived.Test.YtfdhgakalojahaaGreatDoorM03
import Derived.Test.YtfdhgakalojahaaGreatDoorM02
import Derived.Deep.AppendLies
import Derived.WalkSpells
set_option linter.unusedSimpArgs false
set_option linter.unusedVariables false
set_option linter.unnecessarySimpa false
set_option linter.unusedSectionVars false
namespace Go.Proofs.YtfdhgakalojahaaGreatDoor
open Go Go.RowKit Go.Stop

/-- an invoke whose run is a value -/
theorem wpList_invokeV {P : Program} {ops : Array Oper} {rest : List Oper} {o : Oper} {a : Act} {Q : Exit → Act → World → Prop} {w : World} (hg : o.guard = none) (r : Operand) (name : String) (tys : Array TypeId)
    (hop : o.op = .call { callee := .invoke r name, args := #[], argTypes := tys }) (v : Value) (hv : a.eval r = v) (u : Value)
    (hm : (callMethod v name #[]).run P w = .ok (.value u) w) (h : wpList P ops Q rest (a.put o.dst u) w) : wpList P ops Q (o :: rest) a w := by
  refine wpList_plain hg fun K hK => ?_
  unfold Oper.wp
  have he : (execOp a.eval o).run P w = .ok (.value u) w := by
    simp [execOp, hop, resolve, invoke, hv, hm]
  rw [he]
  exact hK _ _ h

noncomputable def typeV (t : TypeId) : Value := .iface 200 (.agg #[.pointer (some ⟨Tryz.prog.globals.size, t, none⟩)])
theorem err_typeOf (v : Value) (w : World) : (Extern.ReflectliteType.typeOf #[.iface 34 v]).run Tryz.prog w = .ok (typeV 34) w := by kernel_rfl
theorem err_comparable (w : World) : (callMethod (typeV 34) "Comparable" #[]).run Tryz.prog w = .ok (.value (.bool true)) w := by kernel_rfl
theorem err_noIs (v : Value) (xT : TypeId) (w : World) : (Instr.typeAssert (.iface 107 v) xT 202 true).run Tryz.prog w = .ok (.tuple #[.nilIface, .bool false]) w := run_typeAssert_lacksB Tryz.underlying202 (by kernel_rfl) (by kernel_rfl) v xT w
theorem err_hasUnwrap (v : Value) (xT : TypeId) (w : World) : (Instr.typeAssert (.iface 107 v) xT 205 true).run Tryz.prog w = .ok (.tuple #[.iface 107 v, .bool true]) w := run_typeAssert_hasB Tryz.underlying205 (by kernel_rfl) v xT w
theorem err_unwrap (v : Value) (w : World) : (callMethod (.iface 107 v) "Unwrap" #[]).run Tryz.prog w = .ok (.enter 193 #[v]) w := by kernel_rfl

theorem trail_unwrap (p : ByteArray) (w : World) : Calls Tryz.prog 193 #[.agg #[.int .i64 300, .string p]] w fun e w' => e = .returned (.iface 34 (.int .i64 300)) ∧ Chg w w' [] := by
  go_enter Tryz.func193, Tryz.ntmps193
  go_wp2
  go_ret
  exact ⟨rfl, by (repeat (first | exact Chg.refl w [] | with_reducible refine Chg.drewN ?_ _ | with_reducible refine Chg.drew ?_ | with_reducible refine Chg.alloc ?_ _ | with_reducible refine Chg.setCell ?_ _ _ (by simp) | with_reducible refine Chg.setCell ?_ _ _ (by simp; omega)))⟩

theorem err_eq (w : World) : (binOp .eql 29 (.iface 34 (.int .i64 300)) (.iface 34 (.int .i64 300))).run Tryz.prog w = .ok (.bool true) w := by kernel_rfl
theorem err_ne (v : Value) (w : World) : (binOp .eql 29 (.iface 107 v) (.iface 34 (.int .i64 300))).run Tryz.prog w = .ok (.bool false) w := by kernel_rfl
theorem err_nil (t : TypeId) (v : Value) (w : World) : (binOp .eql 29 (.iface t v) .nilIface).run Tryz.prog w = .ok (.bool false) w := by kernel_rfl

set_option maxRecDepth 100000 in
set_option maxHeartbeats 4000000 in
theorem errors_is_trail (p : ByteArray) (w : World) :
    Calls Tryz.prog 84 #[.iface 107 (.agg #[.int .i64 300, .string p]), .iface 34 (.int .i64 300), .bool true] w fun e w' => e = .returned (.bool true) ∧ Chg w w' [] := by
  have e1 := err_noIs
  have e2 := err_hasUnwrap
  have e3 := err_eq
  have e4 := err_ne
  have e5 := err_nil
  go_enter Tryz.func84, Tryz.ntmps84
  go_wp2_with fail
  refine wp_loop_rounds 2 ?_
  rw [rounds_succ]
  go_wp2_with (first
    | (refine wpList_invoke rfl _ "Unwrap" _ rfl _ rfl 193 _ (err_unwrap _ _) _ (trail_unwrap p _) ?_; rintro e w2 ⟨rfl, hg2⟩; refine ⟨_, rfl, ?_⟩; have HG2 := Lib.hid hg2; clear hg2))
  rw [rounds_succ]
  go_wp2_with fail
  go_ret
  exact ⟨rfl, HG2.out⟩

set_option maxRecDepth 100000 in
set_option maxHeartbeats 4000000 in
theorem errors_Is_trail (p : ByteArray) (w : World) :
    Calls Tryz.prog 44 #[.iface 107 (.agg #[.int .i64 300, .string p]), .iface 34 (.int .i64 300)] w fun e w' => e = .returned (.bool true) ∧ Chg w w' [] := by
  have h83 := @run_callFunc_extern Tryz.prog 83 _ Extern.ReflectliteType.typeOf Tryz.func83 (by kernel_rfl) (by kernel_rfl) (by kernel_rfl) (by kernel_rfl)
  have e1 := err_typeOf
  have e4 := err_ne
  have e5 := err_nil
  go_enter Tryz.func44, Tryz.ntmps44
  go_wp2_with (first
    | (refine wpList_invokeV rfl _ "Comparable" _ rfl _ rfl _ (err_comparable _) ?_)
    | (go_at_call 84; refine (errors_is_trail p _).mono ?_; rintro e w2 ⟨rfl, hg2⟩))
  go_ret
  exact ⟨rfl, hg2⟩
end Go.Proofs.YtfdhgakalojahaaGreatDoor

namespace Go.Proofs.YtfdhgakalojahaaGreatDoor
open Go Go.RowKit

set_option maxRecDepth 100000 in
set_option maxHeartbeats 4000000 in
theorem law_tells_trail (p : ByteArray) (w : World) :
    Calls Tryz.prog 15 #[.iface 107 (.agg #[.int .i64 300, .string p]), .agg #[.int .i64 3, .int .i64 300, .int .i64 0, .string p]] w fun e w' => e = .returned (.bool true) ∧ Chg w w' [] := by
  have a1 : ∀ (v : Value) (w : World), (Instr.typeAssert (.iface 107 v) 29 34 true).run Tryz.prog w = .ok (.tuple #[.int .i64 0, .bool false]) w := fun _ _ => by kernel_rfl
  have a2 : ∀ (v : Value) (w : World), (Instr.typeAssert (.iface 107 v) 29 100 true).run Tryz.prog w = .ok (.tuple #[.agg #[.int .i64 0, .int .i64 0], .bool false]) w := fun _ _ => by kernel_rfl
  have a3 : ∀ (v : Value) (w : World), (Instr.typeAssert (.iface 107 v) 29 107 true).run Tryz.prog w = .ok (.tuple #[v, .bool true]) w := fun _ _ => by kernel_rfl
  go_enter Tryz.func15, Tryz.ntmps15
  go_wp2_with (first
    | (go_at_call 44; refine (errors_Is_trail p _).mono ?_; rintro e w2 ⟨rfl, hg2⟩))
  go_ret
  exact ⟨rfl, Chg.trans (by (repeat (first | exact Chg.refl w [] | with_reducible refine Chg.drewN ?_ _ | with_reducible refine Chg.drew ?_ | with_reducible refine Chg.alloc ?_ _ | with_reducible refine Chg.setCell ?_ _ _ (by simp) | with_reducible refine Chg.setCell ?_ _ _ (by simp; omega)))) hg2⟩
end Go.Proofs.YtfdhgakalojahaaGreatDoor

namespace Go.Proofs.YtfdhgakalojahaaGreatDoor
open Go Go.RowKit

/-- a byte as a value -/
abbrev byV : UInt8 → Value := Extern.Stop.cell

/-- a head's cells -/
def hdL (o : ByteArray) (n : Int) (rb : List UInt8) (t : Int) : List Value := [.string o, .int .i64 n] ++ rb.map byV ++ [.int .i64 t]

theorem hdL_0 (o : ByteArray) (n : Int) (rb : List UInt8) (t : Int) : (hdL o n rb t)[0]? = some (.string o) := rfl
theorem hdL_1 (o : ByteArray) (n : Int) (rb : List UInt8) (t : Int) : (hdL o n rb t)[1]? = some (.int .i64 n) := rfl
theorem hdL_2 (o : ByteArray) (n : Int) (rb : List UInt8) (t : Int) (j : Nat) (v : Value) (h : (rb.map byV)[j]? = some v) : (hdL o n rb t)[2 + j]? = some v := by
  have hj : j < (rb.map byV).length := (List.getElem?_eq_some_iff.1 h).1
  unfold hdL
  rw [List.getElem?_append_left (by simp at hj ⊢; omega), List.getElem?_append_right (by simp), ← h]
  simp
theorem hdL_34 (o : ByteArray) (n : Int) (rb : List UInt8) (t : Int) (hr : rb.length = 32) : (hdL o n rb t)[34]? = some (.int .i64 t) := by
  unfold hdL
  rw [List.getElem?_append_right (by simp; omega)]
  simp [hr]
theorem hdL_length (o : ByteArray) (n : Int) (rb : List UInt8) (t : Int) : (hdL o n rb t).length = rb.length + 3 := by simp [hdL]
theorem hdL_one (o : ByteArray) (n : Int) (rb : List UInt8) (t : Int) : ∀ v ∈ hdL o n rb t, v.oneCell' = true := by
  intro v hv
  simp only [hdL, List.mem_append, List.mem_cons, List.mem_map, List.not_mem_nil, or_false] at hv
  rcases hv with ((rfl | rfl) | ⟨b, _, rfl⟩) | rfl <;> rfl
theorem hdL_cells (o : ByteArray) (n : Int) (rb : List UInt8) (t : Int) : (Value.agg (hdL o n rb t).toArray).cells = (hdL o n rb t).toArray := rfl

theorem cell_one (rb : List UInt8) : ∀ v ∈ rb.map byV, v.oneCell' = true := by
  intro v hv
  obtain ⟨b, _, rfl⟩ := List.mem_map.1 hv
  rfl

/-- a block that is a head -/
theorem Blk.head {w : World} {b : Nat} {o : ByteArray} {n : Int} {rb : List UInt8} {t : Int} {T : TypeId} (h : Blk w b (hdL o n rb t) T) (hr : rb.length = 32) :
    w.cell? ⟨b, 0, none⟩ = some (.string o) ∧ w.cell? ⟨b, 1, none⟩ = some (.int .i64 n) ∧ w.cell? ⟨b, 34, none⟩ = some (.int .i64 t) ∧ w.rangeAt b 2 (rb.map byV) :=
  ⟨by rw [h.cell, hdL_0], by rw [h.cell, hdL_1], by rw [h.cell, hdL_34 _ _ _ _ hr], fun j v hv => by rw [h.cell, hdL_2 _ _ _ _ _ _ hv]⟩

/-- a whole array loaded by an operation that a guard lets by -/
theorem wpList_load_midG {P : Program} {ops : Array Oper} {rest : List Oper} {op : Oper} {a : Act} {w : World} {Q : Exit → Act → World → Prop} (ty : TypeId) (x : Operand) (ho : op.op = .load ty x)
    (b o : Nat) (hx : a.eval x = .pointer (some ⟨b, o, none⟩)) (cs : List Value) (d : TypeDesc) (hc : w.rangeAt b o cs)
    (hu : P.underlying ty = some d) (hd : d.isRow = true) (hi : (P.info? ty).map (·.size) = some cs.length) (hw : Region.wanted op (yielded ops a.tmps) = true)
    (h : wpList P ops Q rest (a.put op.dst (.agg cs.toArray)) w) : wpList P ops Q (op :: rest) a w :=
  wpList_step fun K hK => by
    simp only [hw, if_true]
    exact wp_load_mid ty x ho b o hx cs d hc hu hd hi (hK _ _ h)

def mayB (ob : Bool) (n t : Int) (e : Bool) : Bool := ob && decide (0 ≤ n) && decide (n ≤ 9007199254740991) && decide (0 ≤ t) && decide (t ≤ 9007199254740991) && (decide (0 < n) || e)
end Go.Proofs.YtfdhgakalojahaaGreatDoor

namespace Go.Proofs.YtfdhgakalojahaaGreatDoor
open Go Go.RowKit

/-- sv is nil, or stands at the head of a row of its own, and its elements are xs -/
def Lst (w : World) (sv : Value) (e : TypeId) (xs : List Value) : Prop := w.ownsRow 0 e 1 sv xs.length xs

theorem Lst.nil (w : World) (e : TypeId) : Lst w (.slice none 0 0) e [] := World.ownsRow_nil w 0 e 1

theorem Lst.kept {w w' : World} {sv : Value} {e : TypeId} {xs : List Value} {bs : List Nat} (h : Lst w sv e xs) (hc : Chg w w' bs) (hn : ∀ g, sv.ownBlock = some g → g ∉ bs) : Lst w' sv e xs := by
  obtain ⟨h1, h2⟩ := h
  refine ⟨h1, ?_⟩
  rcases h2 with h2 | ⟨g, cap, cur, hv, hb, hg, r⟩
  · exact .inl h2
  · refine .inr ⟨g, cap, cur, hv, hb, ?_, r⟩
    rw [hc.block g (Array.getElem?_eq_some_iff.1 hg).1 (hn g (by subst hv; rfl))]
    exact hg

theorem Lst.form {w : World} {sv : Value} {e : TypeId} {xs : List Value} (h : Lst w sv e xs) : ∃ a cap, sv = .slice a xs.length cap ∧ (xs ≠ [] → ∃ g, a = some ⟨g, 0, none⟩) := by
  rcases h.2 with ⟨h1, h2⟩ | ⟨g, cap, cur, hv, _⟩
  · exact ⟨none, 0, by rw [h1, h2], fun hx => absurd (List.eq_nil_of_length_eq_zero h2) hx⟩
  · exact ⟨_, cap, hv, fun _ => ⟨g, rfl⟩⟩

theorem Lst.cell {w : World} {sv : Value} {e : TypeId} {xs : List Value} (h : Lst w sv e xs) {g : Nat} (hg : sv.ownBlock = some g) (i : Nat) (v : Value) (hv : xs[i]? = some v) : w.cell? ⟨g, i, none⟩ = some v := by
  have := World.ownsRow.cells h hg i v hv
  rwa [show (⟨g, 0, none⟩ : Addr).add i = ⟨g, i, none⟩ from by unfold Addr.add; split <;> simp_all] at this

theorem Lst.lt {w : World} {sv : Value} {e : TypeId} {xs : List Value} (h : Lst w sv e xs) {g : Nat} (hg : sv.ownBlock = some g) : g < w.heap.size := (World.ownsRow.lt h g hg).2

/-- 'append(s, x)' of one element that lies in a block of one cell. -/
theorem wpList_append1 {P : Program} {ops : Array Oper} {rest : List Oper} {o : Oper} {a : Act} {Q : Exit → Act → World → Prop} {w : World} (hgd : o.guard = none) (s x : Operand) (t : TypeId)
    (ho : o.op = .call { callee := .builtin .append, args := #[s, x], argTypes := #[t, t] })
    (e : TypeId) (z : Value) (bytes : Nat) (ht : P.underlying t = some (.slice e)) (hinfo : (P.info? e).map (fun i => (i.zero, i.size, i.bytes)) = some (some z, 1, bytes)) (hzs : z.cells.size = 1)
    (sv : Value) (xs : List Value) (hs : a.eval s = sv) (hown : Lst w sv e xs)
    (B : Nat) (u : Value) (hx : a.eval x = .slice (some ⟨B, 0, none⟩) 1 1) (hu : w.cell? ⟨B, 0, none⟩ = some u) (hu1 : u.oneCell' = true) (hn : (xs.length + 1) * bytes ≤ 140737488355328) (hn' : xs.length ≤ 140737488355328)
    (h : ∀ g cap w', Lst w' (.slice (some ⟨g, 0, none⟩) (xs.length + 1) cap) e (xs ++ [u]) → Chg w w' sv.ownBlock.toList → (sv.ownBlock = some g ∨ g = w.heap.size) →
      wpList P ops Q rest (a.put o.dst (.slice (some ⟨g, 0, none⟩) (xs.length + 1) cap)) w') : wpList P ops Q (o :: rest) a w := by
  obtain ⟨i, hi, hz, hsz, hby⟩ := info_parts hinfo
  have hnews : ∀ j v, [u][j]? = some v → w.cell? ((⟨B, 0, none⟩ : Addr).add j) = some v := by
    intro j v hv
    match j, hv with
    | 0, hv => simp at hv; subst hv; exact hu
    | j + 1, hv => simp at hv
  obtain ⟨g, cap, w', hr, h1, h2, h3, h4⟩ := run_append_lies (P := P) w t o.type 0 e i z 1 bytes ht hi hz hsz hby hzs (by decide) sv xs.length xs hown ⟨B, 0, none⟩ 1 1 [u] rfl hnews (by simpa using hu1) (by decide) (by unfold maxLen; omega) hn (Nat.zero_le _) _ rfl
  refine wpList_plain hgd fun K hK => ?_
  unfold Oper.wp execOp
  simp only [ho, resolve, invoke, builtin, Sem.run_bind, Sem.run_pure, Result.andThen_ok, List.map_toArray, List.map_cons, List.map_nil, hs, hx, hr]
  exact hK _ _ (h g cap w' (by unfold Lst; rw [List.length_append]; exact h1) ⟨h2.os, h2.tape, h2.output, h2.size, run_drawn _ _ _ _ hr, fun k hk hn => h2.block k hk fun he => hn (by rw [← he]; simp)⟩ h3)

/-- The same at a step of a region that draws its order. -/
theorem step_append1 {P : Program} {ops : Array Oper} {o : Oper} {a : Act} {K : Act → World → Prop} {Q : Exit → Act → World → Prop} {E : Prop} {w : World} (hgd : o.guard = none) (s x : Operand) (t : TypeId)
    (ho : o.op = .call { callee := .builtin .append, args := #[s, x], argTypes := #[t, t] })
    (e : TypeId) (z : Value) (bytes : Nat) (ht : P.underlying t = some (.slice e)) (hinfo : (P.info? e).map (fun i => (i.zero, i.size, i.bytes)) = some (some z, 1, bytes)) (hzs : z.cells.size = 1)
    (sv : Value) (xs : List Value) (hs : a.eval s = sv) (hown : Lst w sv e xs)
    (B : Nat) (u : Value) (hx : a.eval x = .slice (some ⟨B, 0, none⟩) 1 1) (hu : w.cell? ⟨B, 0, none⟩ = some u) (hu1 : u.oneCell' = true) (hn : (xs.length + 1) * bytes ≤ 140737488355328) (hn' : xs.length ≤ 140737488355328)
    (h : ∀ g cap w', Lst w' (.slice (some ⟨g, 0, none⟩) (xs.length + 1) cap) e (xs ++ [u]) → Chg w w' sv.ownBlock.toList → (sv.ownBlock = some g ∨ g = w.heap.size) →
      K (a.put o.dst (.slice (some ⟨g, 0, none⟩) (xs.length + 1) cap)) w') :
    if Region.wanted o (yielded ops a.tmps) = true then Oper.wp P o a w K Q else E := by
  obtain ⟨i, hi, hz, hsz, hby⟩ := info_parts hinfo
  have hnews : ∀ j v, [u][j]? = some v → w.cell? ((⟨B, 0, none⟩ : Addr).add j) = some v := by
    intro j v hv
    match j, hv with
    | 0, hv => simp at hv; subst hv; exact hu
    | j + 1, hv => simp at hv
  obtain ⟨g, cap, w', hr, h1, h2, h3, h4⟩ := run_append_lies (P := P) w t o.type 0 e i z 1 bytes ht hi hz hsz hby hzs (by decide) sv xs.length xs hown ⟨B, 0, none⟩ 1 1 [u] rfl hnews (by simpa using hu1) (by decide) (by unfold maxLen; omega) hn (Nat.zero_le _) _ rfl
  have hw : Region.wanted o (yielded ops a.tmps) = true := by simp [Region.wanted, hgd]
  rw [if_pos hw]
  unfold Oper.wp execOp
  simp only [ho, resolve, invoke, builtin, Sem.run_bind, Sem.run_pure, Result.andThen_ok, List.map_toArray, List.map_cons, List.map_nil, hs, hx, hr]
  exact (h g cap w' (by unfold Lst; rw [List.length_append]; exact h1) ⟨h2.os, h2.tape, h2.output, h2.size, run_drawn _ _ _ _ hr, fun k hk hn => h2.block k hk fun he => hn (by rw [← he]; simp)⟩ h3)

theorem Lst.capLe {w : World} {a : Option Addr} {n cap : Nat} {e : TypeId} {vs : List Value} (h : Lst w (.slice a n cap) e vs) : n = vs.length ∧ vs.length ≤ cap := by
  rcases h.2 with ⟨h1, h2⟩ | ⟨g, cap', cur, hv, _, _, h3, _⟩
  · injection h1; omega
  · injection hv; omega

theorem Lst.pop {w : World} {a : Option Addr} {cap : Nat} {e : TypeId} {vs : List Value} (h : Lst w (.slice a vs.length cap) e vs) (k : Nat) (hk : k ≤ vs.length) : Lst w (.slice a k cap) e (vs.take k) := by
  have hl : (vs.take k).length = k := by rw [List.length_take]; omega
  refine ⟨by simp, ?_⟩
  rcases h.2 with ⟨h1, h2⟩ | ⟨g, cap', cur, hv, hb, hg, h3, h4, h5, h6⟩
  · injection h1 with h1 h2' h3'
    subst h1; subst h3'
    have : k = 0 := by omega
    subst this
    exact .inl ⟨rfl, by simp⟩
  · injection hv with hv hv2 hv3
    subst hv; subst hv3
    refine .inr ⟨g, cap, cur, by rw [hl], hb, hg, by omega, h4, h5, ?_⟩
    rw [hl, Nat.mul_one, ← h6, List.take_take]
    congr 1
    omega
end Go.Proofs.YtfdhgakalojahaaGreatDoor

namespace Go.Proofs.YtfdhgakalojahaaGreatDoor
open Go Go.RowKit

/-- a slice literal -/
theorem Lst.lit (w : World) (cs : List Value) (e : TypeId) (n : Nat) (hn : cs.length = n) (hm : n ≤ maxLen) : Lst (w.alloc (.cells cs.toArray e)) (.slice (some ⟨w.heap.size, 0, none⟩) n n) e cs := by
  subst hn
  exact World.ownsRow_lit w cs.toArray cs.length (Nat.zero_le _) hm (by simp)

theorem run_append_void {P : Program} (w : World) (t ty e : TypeId) (i : TypeInfo) (ht : P.underlying t = some (.slice e)) (hi : P.info? e = some i) (a : Option Addr) (n cap : Nat) (hc : n ≤ cap) (x : Option Addr) (c : Nat) :
    (Builtin.append_ #[t, t] ty #[.slice a n cap, .slice x 0 c]).run P w = .ok (.slice a n cap) w := by
  cases a with
  | none => cases x <;> simp [Builtin.append_, run_underlying ht, sizeOf, typeInfo, hi, Builtin.lenOf, Builtin.firstCells, hc] <;> rfl
  | some a =>
    cases x <;> simp [Builtin.append_, run_underlying ht, sizeOf, typeInfo, hi, Builtin.lenOf, Builtin.firstCells, hc] <;> rfl

theorem wpList_append_void {P : Program} {ops : Array Oper} {rest : List Oper} {o : Oper} {a : Act} {Q : Exit → Act → World → Prop} {w : World} (hgd : o.guard = none) (s x : Operand) (t : TypeId)
    (ho : o.op = .call { callee := .builtin .append, args := #[s, x], argTypes := #[t, t] })
    (e : TypeId) (i : TypeInfo) (ht : P.underlying t = some (.slice e)) (hi : P.info? e = some i) (b : Option Addr) (n cap : Nat) (hc : n ≤ cap) (hs : a.eval s = .slice b n cap) (y : Option Addr) (c : Nat) (hx : a.eval x = .slice y 0 c)
    (h : wpList P ops Q rest (a.put o.dst (.slice b n cap)) w) : wpList P ops Q (o :: rest) a w := by
  have hr := run_append_void (P := P) w t o.type e i ht hi b n cap hc y c
  refine wpList_plain hgd fun K hK => ?_
  unfold Oper.wp execOp
  simp only [ho, resolve, invoke, builtin, Sem.run_bind, Sem.run_pure, Result.andThen_ok, List.map_toArray, List.map_cons, List.map_nil, hs, hx, hr]
  exact hK _ _ h

end Go.Proofs.YtfdhgakalojahaaGreatDoor

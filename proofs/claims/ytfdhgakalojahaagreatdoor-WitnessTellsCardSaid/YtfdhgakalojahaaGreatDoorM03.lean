/- WORLDS: what a call may have turned, as a list of blocks; blocks known whole. No program in sight. LAWS: a block's cells written and read as a whole. LAWS: a text's bytes in new memory. -/
import Derived.WalkKit
import Derived.Lib.Hide
import Derived.Deep.Draws
import Derived.Test.YtfdhgakalojahaaGreatDoorM01
set_option linter.unusedSimpArgs false
set_option linter.unusedVariables false
set_option linter.unnecessarySimpa false
set_option linter.unusedSectionVars false
namespace Go.Proofs.YtfdhgakalojahaaGreatDoor
open Go Go.RowKit

/-- Of what was there in w, at most the blocks of the list read otherwise in w'. -/
structure Chg (w w' : World) (bs : List Nat) : Prop where
  os : w'.os = w.os
  tape : w'.tape = w.tape
  output : w'.output = w.output
  size : w.heap.size ≤ w'.heap.size
  drawn : w.drawn ≤ w'.drawn
  block : ∀ k, k < w.heap.size → k ∉ bs → w'.heap[k]? = w.heap[k]?

theorem Chg.refl (w : World) (bs : List Nat) : Chg w w bs := ⟨rfl, rfl, rfl, Nat.le_refl _, Nat.le_refl _, fun _ _ _ => rfl⟩

theorem Chg.trans {a b c : World} {bs : List Nat} (h : Chg a b bs) (k : Chg b c bs) : Chg a c bs :=
  ⟨k.os.trans h.os, k.tape.trans h.tape, k.output.trans h.output, Nat.le_trans h.size k.size, Nat.le_trans h.drawn k.drawn,
    fun i hi hn => (k.block i (Nat.lt_of_lt_of_le hi h.size) hn).trans (h.block i hi hn)⟩

theorem Chg.mono {a b : World} {bs cs : List Nat} (h : Chg a b bs) (hs : ∀ k, k < a.heap.size → k ∈ bs → k ∈ cs) : Chg a b cs :=
  ⟨h.os, h.tape, h.output, h.size, h.drawn, fun i hi hn => h.block i hi fun hm => hn (hs i hi hm)⟩

theorem Chg.none {a b : World} (h : Chg a b []) (cs : List Nat) : Chg a b cs := h.mono fun _ _ hm => by cases hm

theorem Chg.of_below {a b : World} (h : Below a.heap.size a b) (hd : a.drawn ≤ b.drawn) : Chg a b [] := ⟨h.os, h.tape, h.output, h.size, hd, fun k hk _ => h.block k hk⟩

theorem Chg.below {a b : World} {bs : List Nat} {B : Nat} (h : Chg a b bs) (hB : B ≤ a.heap.size) (hb : ∀ k, k ∈ bs → B ≤ k) : Below B a b :=
  ⟨h.os, h.tape, h.output, h.size, fun k hk => h.block k (Nat.lt_of_lt_of_le hk hB) fun hm => by have := hb k hm; omega⟩

/-- behind a, then b: what b turned is of the list or newer than a -/
theorem Chg.step {a b c : World} {bs cs : List Nat} (h : Chg a b bs) (k : Chg b c cs) (hs : ∀ i, i ∈ cs → i < a.heap.size → i ∈ bs) : Chg a c bs :=
  ⟨k.os.trans h.os, k.tape.trans h.tape, k.output.trans h.output, Nat.le_trans h.size k.size, Nat.le_trans h.drawn k.drawn,
    fun i hi hn => (k.block i (Nat.lt_of_lt_of_le hi h.size) fun hm => hn (hs i hm hi)).trans (h.block i hi hn)⟩

/-- what was turned is newer than a -/
theorem Chg.fresh {a b c : World} {bs cs : List Nat} (h : Chg a b bs) (k : Chg b c cs) (hs : ∀ i, i ∈ cs → a.heap.size ≤ i) : Chg a c bs :=
  h.step k fun i hm hi => absurd hi (Nat.not_lt.2 (hs i hm))

theorem Chg.alloc {a b : World} {bs : List Nat} (h : Chg a b bs) (o : Obj) : Chg a (b.alloc o) bs :=
  h.step (cs := []) ⟨rfl, rfl, rfl, by simp, Nat.le_refl _, fun k hk _ => Below.heap_alloc _ _ _ hk⟩ (fun _ hm => by cases hm)

theorem Chg.setCell {a b : World} {bs : List Nat} (h : Chg a b bs) (p : Addr) (u : Value) (hp : p.block < a.heap.size → p.block ∈ bs) : Chg a (b.setCell p u) bs :=
  h.step (cs := [p.block]) ⟨rfl, rfl, rfl, by simp [World.setCell], Nat.le_refl _, fun k _ hn => Below.heap_setCell _ _ _ _ (by simpa using hn)⟩
    (fun i hm hi => by simp at hm; subst hm; exact hp hi)

theorem Chg.drew {a b : World} {bs : List Nat} (h : Chg a b bs) : Chg a b.drew bs := ⟨h.os, h.tape, h.output, h.size, Nat.le_trans h.drawn (Nat.le_succ _), h.block⟩

theorem Chg.drewN {a b : World} {bs : List Nat} (h : Chg a b bs) (n : Nat) : Chg a (b.drewN n) bs := ⟨h.os, h.tape, h.output, h.size, Nat.le_trans h.drawn (Nat.le_add_right _ _), h.block⟩

theorem Chg.grown {a b c : World} {bs : List Nat} {row : Option Nat} (h : Chg a b bs) (hg : b.grownBy c row) (hd : b.drawn ≤ c.drawn) (hr : ∀ k, row = some k → k < a.heap.size → k ∈ bs) : Chg a c bs :=
  h.step (cs := row.toList) ⟨hg.os, hg.tape, hg.output, hg.size, hd, fun k hk hn => hg.block k hk fun e => hn (by simp [← e])⟩
    (fun i hm hi => hr i (by simpa using hm) hi)

theorem Chg.cell {a b : World} {bs : List Nat} (h : Chg a b bs) {p : Addr} (hp : p.block < a.heap.size) (hn : p.block ∉ bs) : b.cell? p = a.cell? p :=
  World.cell?_of_block (w := a) (h.block p.block hp hn)
theorem Chg.keeps {a b : World} (h : Chg a b []) {p : Addr} {v : Value} (hp : a.cell? p = some v) : b.cell? p = some v :=
  (h.cell (World.block_lt_of_cell? a _ hp) (by simp)).trans hp
theorem Chg.frozen {a b : World} {bs : List Nat} (h : Chg a b bs) {p : Addr} (hp : p.block < a.heap.size) (hn : p.block ∉ bs) : b.frozen? p = a.frozen? p :=
  World.frozen?_of_block (w := a) (h.block p.block hp hn)

/-- a block that is known whole, and may be written -/
def Blk (w : World) (b : Nat) (cs : List Value) (T : TypeId) : Prop := w.heap[b]? = some (.cells cs.toArray T (0, 0))

theorem Blk.eq {w : World} {b : Nat} {cs ds : List Value} {T : TypeId} (h : Blk w b cs T) (e : cs = ds) : Blk w b ds T := e ▸ h

theorem Blk.lt {w : World} {b : Nat} {cs : List Value} {T : TypeId} (h : Blk w b cs T) : b < w.heap.size := (Array.getElem?_eq_some_iff.1 h).1

theorem Blk.cell {w : World} {b : Nat} {cs : List Value} {T : TypeId} (h : Blk w b cs T) (j : Nat) : w.cell? ⟨b, j, none⟩ = cs[j]? := by
  unfold Blk at h; simp [World.cell?, h]

theorem Blk.frozen {w : World} {b : Nat} {cs : List Value} {T : TypeId} (h : Blk w b cs T) (j : Nat) : w.frozen? ⟨b, j, none⟩ = false := by
  unfold Blk at h; simp [World.frozen?, h]

theorem Blk.cells1 {w : World} {b : Nat} {v0 : Value} {T : TypeId} (h : Blk w b [v0] T) : b < w.heap.size ∧ (∀ j, w.frozen? ⟨b, j, none⟩ = false) ∧ w.cell? ⟨b, 0, none⟩ = some v0 :=
  ⟨h.lt, fun j => h.frozen j, h.cell 0⟩
theorem Blk.cells6 {w : World} {b : Nat} {v0 v1 v2 v3 v4 v5 : Value} {T : TypeId} (h : Blk w b [v0, v1, v2, v3, v4, v5] T) : b < w.heap.size ∧ (∀ j, w.frozen? ⟨b, j, none⟩ = false) ∧ w.cell? ⟨b, 0, none⟩ = some v0 ∧
    w.cell? ⟨b, 1, none⟩ = some v1 ∧ w.cell? ⟨b, 2, none⟩ = some v2 ∧ w.cell? ⟨b, 3, none⟩ = some v3 ∧ w.cell? ⟨b, 4, none⟩ = some v4 ∧ w.cell? ⟨b, 5, none⟩ = some v5 :=
  ⟨h.lt, fun j => h.frozen j, h.cell 0, h.cell 1, h.cell 2, h.cell 3, h.cell 4, h.cell 5⟩

theorem Blk.kept {w w' : World} {bs : List Nat} {b : Nat} {cs : List Value} {T : TypeId} (h : Blk w b cs T) (hc : Chg w w' bs) (hn : b ∉ bs) : Blk w' b cs T :=
  (hc.block b h.lt hn).trans h

theorem Blk.alloc {w : World} {b : Nat} {cs : List Value} {T : TypeId} (h : Blk w b cs T) (o : Obj) : Blk (w.alloc o) b cs T :=
  (Below.heap_alloc w o b h.lt).trans h

theorem Blk.new (w : World) (cs : List Value) (T : TypeId) : Blk (w.alloc (.cells cs.toArray T)) w.heap.size cs T := heap_alloc_new w _

theorem Blk.drew {w : World} {b : Nat} {cs : List Value} {T : TypeId} (h : Blk w b cs T) : Blk w.drew b cs T := h

theorem Blk.drewN {w : World} {b : Nat} {cs : List Value} {T : TypeId} (h : Blk w b cs T) (n : Nat) : Blk (w.drewN n) b cs T := h

theorem Blk.set {w : World} {b : Nat} {cs : List Value} {T : TypeId} (h : Blk w b cs T) (j : Nat) (v : Value) : Blk (w.setCell ⟨b, j, none⟩ v) b (cs.set j v) T := by
  unfold Blk at *
  simp only [World.setCell, Array.getElem?_modify, h]
  simp

theorem Blk.set_other {w : World} {b : Nat} {cs : List Value} {T : TypeId} (h : Blk w b cs T) (a : Addr) (v : Value) (hn : a.block ≠ b) : Blk (w.setCell a v) b cs T :=
  (Below.heap_setCell w a v b (fun e => hn e.symm)).trans h

theorem ret_bool {a b : Bool} (h : a = b) : Ending.returned (.bool a) = .returned (.bool b) := by rw [h]
theorem ret_int {k : IntKind} {a b : Int} (h : a = b) : Ending.returned (.int k a) = .returned (.int k b) := by rw [h]
theorem ret_string {a b : ByteArray} (h : a = b) : Ending.returned (.string a) = .returned (.string b) := by rw [h]

theorem results_tmp4 {fn : Func} {t u v x : Tmp} (h : fn.results = #[.tmp t, .tmp u, .tmp v, .tmp x]) (tmps : Array Value) (P : Program) (w : World) :
    (results fn tmps).run P w = .ok (.tuple #[tmps.getD t undef, tmps.getD u undef, tmps.getD v undef, tmps.getD x undef]) w := by
  simp [results, h]

end Go.Proofs.YtfdhgakalojahaaGreatDoor

namespace Go.Proofs.YtfdhgakalojahaaGreatDoor
open Go Go.RowKit

theorem Blk.row {w : World} {b : Nat} {cs : List Value} {T : TypeId} (h : Blk w b cs T) (ds : List Value) : Blk (w.setRow b ds.toArray) b ds T := setRow_heap w b _ _ _ _ h
theorem Blk.row_other {w : World} {b : Nat} {cs : List Value} {T : TypeId} (h : Blk w b cs T) (g : Nat) (ds : Array Value) (hn : b ≠ g) : Blk (w.setRow g ds) b cs T := (setRow_other w g b ds hn).trans h

theorem Chg.setRow {a b : World} {bs : List Nat} (h : Chg a b bs) (g : Nat) (ds : Array Value) (hp : g < a.heap.size → g ∈ bs) : Chg a (b.setRow g ds) bs :=
  h.step (cs := [g]) ⟨rfl, rfl, rfl, by simp, Nat.le_refl _, fun k _ hn => setRow_other b g k ds (by simpa using hn)⟩ (fun i hm hi => by simp at hm; subst hm; exact hp hi)

theorem wpList_store_blk {P : Program} {ops : Array Oper} {rest : List Oper} {o : Oper} {a : Act} {w : World} {Q : Exit → Act → World → Prop} (hgd : o.guard = none) (ty : TypeId) (x y : Operand) (ho : o.op = .store ty x y)
    (g : Nat) (ds : List Value) (hx : a.eval x = .pointer (some ⟨g, 0, none⟩)) (hy : a.eval y = .agg ds.toArray) (T : TypeId) (cs : List Value) (hB : Blk w g cs T) (hi : (P.info? ty).map (·.size) = some ds.length)
    (hl : cs.length = ds.length) (h1 : ∀ v ∈ ds, v.oneCell' = true)
    (h : ∀ w', w'.heap.size = w.heap.size → Blk w' g ds T → Chg w w' [g] → wpList P ops Q rest (a.put o.dst undef) w') : wpList P ops Q (o :: rest) a w :=
  wpList_store_row hgd ty x y ho g ds.toArray hx hy T cs.toArray hB (by simpa using hi) (by simpa using hl) (Array.all_eq_true_iff_forall_mem.2 fun v hv => h1 v (by simpa using hv))
    (h _ (by simp) (hB.row ds) ((Chg.refl _ _).setRow _ _ (by simp)))

theorem wpList_load_blk {P : Program} {ops : Array Oper} {rest : List Oper} {o : Oper} {a : Act} {w : World} {Q : Exit → Act → World → Prop} (hgd : o.guard = none) (ty : TypeId) (x : Operand) (ho : o.op = .load ty x)
    (g : Nat) (hx : a.eval x = .pointer (some ⟨g, 0, none⟩)) (T : TypeId) (cs : List Value) (hB : Blk w g cs T) (d : TypeDesc)
    (hu : P.underlying ty = some d) (hd : (match d with | .struct _ | .array _ _ => true | _ => false) = true) (hi : (P.info? ty).map (·.size) = some cs.length)
    (h : wpList P ops Q rest (a.put o.dst (.agg cs.toArray)) w) : wpList P ops Q (o :: rest) a w :=
  wpList_load_row hgd ty x ho g hx T cs.toArray (0, 0) d hB hu hd (by simpa using hi) h

theorem results_blk {P : Program} {fn : Func} {p : Tmp} {ty : TypeId} (h : fn.results = #[.cell p ty]) (tmps : Array Value) (w : World) (g : Nat) (T : TypeId) (cs : List Value) (d : TypeDesc)
    (hp : tmps.getD p undef = .pointer (some ⟨g, 0, none⟩)) (hB : Blk w g cs T)
    (hu : P.underlying ty = some d) (hd : (match d with | .struct _ | .array _ _ => true | _ => false) = true) (hi : (P.info? ty).map (·.size) = some cs.length) :
    (results fn tmps).run P w = .ok (.agg cs.toArray) w :=
  results_cell_row h tmps w g T cs.toArray (0, 0) d hp hB hu hd (by simpa using hi)
end Go.Proofs.YtfdhgakalojahaaGreatDoor

namespace Go.Proofs.YtfdhgakalojahaaGreatDoor
open Go Go.RowKit

theorem bytesRow_get (s : ByteArray) (cap i : Nat) (h : i < s.size) : (bytesRow s cap)[i]? = some (.int .u8 (Utf.byteAt s i)) := by
  unfold bytesRow
  rw [Utf.byteAt_eq h, Array.getElem?_append_left (by simpa using h)]
  simp [h]
  rfl

theorem conv_bytes {P : Program} (w : World) (src dst e : TypeId) (s : ByteArray) (hs : P.underlying src = some .string) (hd : P.underlying dst = some (.slice e)) (he : P.underlying e = some (.int .u8)) :
    ∃ (cap : Nat) (w1 : World), (convert src dst (.string s)).run P w = .ok (.slice (some ⟨w.heap.size, 0, none⟩) s.size cap) w1 ∧ s.size ≤ cap ∧ Chg w w1 [] ∧ w1.heap.size = w.heap.size + 1 ∧
      ∀ i, i < s.size → w1.cell? ⟨w.heap.size, i, none⟩ = some (.int .u8 (Utf.byteAt s i)) := by
  refine ⟨_, _, run_bytes_of_string w src dst e s hs hd he, grownCap_ge _ _ _ _, (Chg.refl w []).drew.alloc _, by simp, fun i hi => ?_⟩
  show (w.drew.alloc _).cell? ⟨w.drew.heap.size, i, none⟩ = _
  rw [World.cell?_alloc_mark]
  exact bytesRow_get s _ i hi
end Go.Proofs.YtfdhgakalojahaaGreatDoor

/- WORLDS: what a call may have turned, as a list of blocks; blocks known whole. No program in sight. LAWS: a block's cells written and read as a whole. LAWS: a text's bytes in new memory. LAWS: a region that draws its order, operation by operation: each by a word of its own that what the others do leaves true. No program in sight. LAWS: a region that draws its order, operation by operation; the words may speak of the values of the operations that one waits for. No program in sight. -/
import Derived.WalkKit
import Derived.Lib.Hide
import Derived.Deep.Draws
import Derived.Test.YtfdhgakalojahaaGreatDoorM01
import Derived.RegionTactic
set_option linter.unusedSimpArgs false
set_option linter.unusedVariables false
set_option linter.unnecessarySimpa false
set_option linter.unusedSectionVars false
namespace Go.Proofs.YtfdhgakalojahaaGreatDoor
open Go Go.RowKit

/-- Of what was there in w, at most the blocks of the list read otherwise in w'. -/
structure Chg (w w' : World) (bs : List Nat) : Prop where
  os : w'.os = w.os
  tape : w'.tape = w.tape
  output : w'.output = w.output
  size : w.heap.size ≤ w'.heap.size
  drawn : w.drawn ≤ w'.drawn
  block : ∀ k, k < w.heap.size → k ∉ bs → w'.heap[k]? = w.heap[k]?

theorem Chg.refl (w : World) (bs : List Nat) : Chg w w bs := ⟨rfl, rfl, rfl, Nat.le_refl _, Nat.le_refl _, fun _ _ _ => rfl⟩

theorem Chg.trans {a b c : World} {bs : List Nat} (h : Chg a b bs) (k : Chg b c bs) : Chg a c bs :=
  ⟨k.os.trans h.os, k.tape.trans h.tape, k.output.trans h.output, Nat.le_trans h.size k.size, Nat.le_trans h.drawn k.drawn,
    fun i hi hn => (k.block i (Nat.lt_of_lt_of_le hi h.size) hn).trans (h.block i hi hn)⟩

theorem Chg.mono {a b : World} {bs cs : List Nat} (h : Chg a b bs) (hs : ∀ k, k < a.heap.size → k ∈ bs → k ∈ cs) : Chg a b cs :=
  ⟨h.os, h.tape, h.output, h.size, h.drawn, fun i hi hn => h.block i hi fun hm => hn (hs i hi hm)⟩

theorem Chg.none {a b : World} (h : Chg a b []) (cs : List Nat) : Chg a b cs := h.mono fun _ _ hm => by cases hm

theorem Chg.of_below {a b : World} (h : Below a.heap.size a b) (hd : a.drawn ≤ b.drawn) : Chg a b [] := ⟨h.os, h.tape, h.output, h.size, hd, fun k hk _ => h.block k hk⟩

theorem Chg.below {a b : World} {bs : List Nat} {B : Nat} (h : Chg a b bs) (hB : B ≤ a.heap.size) (hb : ∀ k, k ∈ bs → B ≤ k) : Below B a b :=
  ⟨h.os, h.tape, h.output, h.size, fun k hk => h.block k (Nat.lt_of_lt_of_le hk hB) fun hm => by have := hb k hm; omega⟩

/-- behind a, then b: what b turned is of the list or newer than a -/
theorem Chg.step {a b c : World} {bs cs : List Nat} (h : Chg a b bs) (k : Chg b c cs) (hs : ∀ i, i ∈ cs → i < a.heap.size → i ∈ bs) : Chg a c bs :=
  ⟨k.os.trans h.os, k.tape.trans h.tape, k.output.trans h.output, Nat.le_trans h.size k.size, Nat.le_trans h.drawn k.drawn,
    fun i hi hn => (k.block i (Nat.lt_of_lt_of_le hi h.size) fun hm => hn (hs i hm hi)).trans (h.block i hi hn)⟩

/-- what was turned is newer than a -/
theorem Chg.fresh {a b c : World} {bs cs : List Nat} (h : Chg a b bs) (k : Chg b c cs) (hs : ∀ i, i ∈ cs → a.heap.size ≤ i) : Chg a c bs :=
  h.step k fun i hm hi => absurd hi (Nat.not_lt.2 (hs i hm))

theorem Chg.alloc {a b : World} {bs : List Nat} (h : Chg a b bs) (o : Obj) : Chg a (b.alloc o) bs :=
  h.step (cs := []) ⟨rfl, rfl, rfl, by simp, Nat.le_refl _, fun k hk _ => Below.heap_alloc _ _ _ hk⟩ (fun _ hm => by cases hm)

theorem Chg.setCell {a b : World} {bs : List Nat} (h : Chg a b bs) (p : Addr) (u : Value) (hp : p.block < a.heap.size → p.block ∈ bs) : Chg a (b.setCell p u) bs :=
  h.step (cs := [p.block]) ⟨rfl, rfl, rfl, by simp [World.setCell], Nat.le_refl _, fun k _ hn => Below.heap_setCell _ _ _ _ (by simpa using hn)⟩
    (fun i hm hi => by simp at hm; subst hm; exact hp hi)

theorem Chg.drew {a b : World} {bs : List Nat} (h : Chg a b bs) : Chg a b.drew bs := ⟨h.os, h.tape, h.output, h.size, Nat.le_trans h.drawn (Nat.le_succ _), h.block⟩

theorem Chg.drewN {a b : World} {bs : List Nat} (h : Chg a b bs) (n : Nat) : Chg a (b.drewN n) bs := ⟨h.os, h.tape, h.output, h.size, Nat.le_trans h.drawn (Nat.le_add_right _ _), h.block⟩

theorem Chg.grown {a b c : World} {bs : List Nat} {row : Option Nat} (h : Chg a b bs) (hg : b.grownBy c row) (hd : b.drawn ≤ c.drawn) (hr : ∀ k, row = some k → k < a.heap.size → k ∈ bs) : Chg a c bs :=
  h.step (cs := row.toList) ⟨hg.os, hg.tape, hg.output, hg.size, hd, fun k hk hn => hg.block k hk fun e => hn (by simp [← e])⟩
    (fun i hm hi => hr i (by simpa using hm) hi)

theorem Chg.cell {a b : World} {bs : List Nat} (h : Chg a b bs) {p : Addr} (hp : p.block < a.heap.size) (hn : p.block ∉ bs) : b.cell? p = a.cell? p :=
  World.cell?_of_block (w := a) (h.block p.block hp hn)
theorem Chg.keeps {a b : World} (h : Chg a b []) {p : Addr} {v : Value} (hp : a.cell? p = some v) : b.cell? p = some v :=
  (h.cell (World.block_lt_of_cell? a _ hp) (by simp)).trans hp
theorem Chg.frozen {a b : World} {bs : List Nat} (h : Chg a b bs) {p : Addr} (hp : p.block < a.heap.size) (hn : p.block ∉ bs) : b.frozen? p = a.frozen? p :=
  World.frozen?_of_block (w := a) (h.block p.block hp hn)

/-- a block that is known whole, and may be written -/
def Blk (w : World) (b : Nat) (cs : List Value) (T : TypeId) : Prop := w.heap[b]? = some (.cells cs.toArray T (0, 0))

theorem Blk.eq {w : World} {b : Nat} {cs ds : List Value} {T : TypeId} (h : Blk w b cs T) (e : cs = ds) : Blk w b ds T := e ▸ h

theorem Blk.lt {w : World} {b : Nat} {cs : List Value} {T : TypeId} (h : Blk w b cs T) : b < w.heap.size := (Array.getElem?_eq_some_iff.1 h).1

theorem Blk.cell {w : World} {b : Nat} {cs : List Value} {T : TypeId} (h : Blk w b cs T) (j : Nat) : w.cell? ⟨b, j, none⟩ = cs[j]? := by
  unfold Blk at h; simp [World.cell?, h]

theorem Blk.frozen {w : World} {b : Nat} {cs : List Value} {T : TypeId} (h : Blk w b cs T) (j : Nat) : w.frozen? ⟨b, j, none⟩ = false := by
  unfold Blk at h; simp [World.frozen?, h]

theorem Blk.cells1 {w : World} {b : Nat} {v0 : Value} {T : TypeId} (h : Blk w b [v0] T) : b < w.heap.size ∧ (∀ j, w.frozen? ⟨b, j, none⟩ = false) ∧ w.cell? ⟨b, 0, none⟩ = some v0 :=
  ⟨h.lt, fun j => h.frozen j, h.cell 0⟩
theorem Blk.cells6 {w : World} {b : Nat} {v0 v1 v2 v3 v4 v5 : Value} {T : TypeId} (h : Blk w b [v0, v1, v2, v3, v4, v5] T) : b < w.heap.size ∧ (∀ j, w.frozen? ⟨b, j, none⟩ = false) ∧ w.cell? ⟨b, 0, none⟩ = some v0 ∧
    w.cell? ⟨b, 1, none⟩ = some v1 ∧ w.cell? ⟨b, 2, none⟩ = some v2 ∧ w.cell? ⟨b, 3, none⟩ = some v3 ∧ w.cell? ⟨b, 4, none⟩ = some v4 ∧ w.cell? ⟨b, 5, none⟩ = some v5 :=
  ⟨h.lt, fun j => h.frozen j, h.cell 0, h.cell 1, h.cell 2, h.cell 3, h.cell 4, h.cell 5⟩

theorem Blk.kept {w w' : World} {bs : List Nat} {b : Nat} {cs : List Value} {T : TypeId} (h : Blk w b cs T) (hc : Chg w w' bs) (hn : b ∉ bs) : Blk w' b cs T :=
  (hc.block b h.lt hn).trans h

theorem Blk.alloc {w : World} {b : Nat} {cs : List Value} {T : TypeId} (h : Blk w b cs T) (o : Obj) : Blk (w.alloc o) b cs T :=
  (Below.heap_alloc w o b h.lt).trans h

theorem Blk.new (w : World) (cs : List Value) (T : TypeId) : Blk (w.alloc (.cells cs.toArray T)) w.heap.size cs T := heap_alloc_new w _

theorem Blk.drew {w : World} {b : Nat} {cs : List Value} {T : TypeId} (h : Blk w b cs T) : Blk w.drew b cs T := h

theorem Blk.drewN {w : World} {b : Nat} {cs : List Value} {T : TypeId} (h : Blk w b cs T) (n : Nat) : Blk (w.drewN n) b cs T := h

theorem Blk.set {w : World} {b : Nat} {cs : List Value} {T : TypeId} (h : Blk w b cs T) (j : Nat) (v : Value) : Blk (w.setCell ⟨b, j, none⟩ v) b (cs.set j v) T := by
  unfold Blk at *
  simp only [World.setCell, Array.getElem?_modify, h]
  simp

theorem Blk.set_other {w : World} {b : Nat} {cs : List Value} {T : TypeId} (h : Blk w b cs T) (a : Addr) (v : Value) (hn : a.block ≠ b) : Blk (w.setCell a v) b cs T :=
  (Below.heap_setCell w a v b (fun e => hn e.symm)).trans h

theorem ret_bool {a b : Bool} (h : a = b) : Ending.returned (.bool a) = .returned (.bool b) := by rw [h]
theorem ret_int {k : IntKind} {a b : Int} (h : a = b) : Ending.returned (.int k a) = .returned (.int k b) := by rw [h]
theorem ret_string {a b : ByteArray} (h : a = b) : Ending.returned (.string a) = .returned (.string b) := by rw [h]

theorem results_tmp4 {fn : Func} {t u v x : Tmp} (h : fn.results = #[.tmp t, .tmp u, .tmp v, .tmp x]) (tmps : Array Value) (P : Program) (w : World) :
    (results fn tmps).run P w = .ok (.tuple #[tmps.getD t undef, tmps.getD u undef, tmps.getD v undef, tmps.getD x undef]) w := by
  simp [results, h]

end Go.Proofs.YtfdhgakalojahaaGreatDoor

namespace Go.Proofs.YtfdhgakalojahaaGreatDoor
open Go Go.RowKit

theorem Blk.row {w : World} {b : Nat} {cs : List Value} {T : TypeId} (h : Blk w b cs T) (ds : List Value) : Blk (w.setRow b ds.toArray) b ds T := setRow_heap w b _ _ _ _ h
theorem Blk.row_other {w : World} {b : Nat} {cs : List Value} {T : TypeId} (h : Blk w b cs T) (g : Nat) (ds : Array Value) (hn : b ≠ g) : Blk (w.setRow g ds) b cs T := (setRow_other w g b ds hn).trans h

theorem Chg.setRow {a b : World} {bs : List Nat} (h : Chg a b bs) (g : Nat) (ds : Array Value) (hp : g < a.heap.size → g ∈ bs) : Chg a (b.setRow g ds) bs :=
  h.step (cs := [g]) ⟨rfl, rfl, rfl, by simp, Nat.le_refl _, fun k _ hn => setRow_other b g k ds (by simpa using hn)⟩ (fun i hm hi => by simp at hm; subst hm; exact hp hi)

theorem wpList_store_blk {P : Program} {ops : Array Oper} {rest : List Oper} {o : Oper} {a : Act} {w : World} {Q : Exit → Act → World → Prop} (hgd : o.guard = none) (ty : TypeId) (x y : Operand) (ho : o.op = .store ty x y)
    (g : Nat) (ds : List Value) (hx : a.eval x = .pointer (some ⟨g, 0, none⟩)) (hy : a.eval y = .agg ds.toArray) (T : TypeId) (cs : List Value) (hB : Blk w g cs T) (hi : (P.info? ty).map (·.size) = some ds.length)
    (hl : cs.length = ds.length) (h1 : ∀ v ∈ ds, v.oneCell' = true)
    (h : ∀ w', w'.heap.size = w.heap.size → Blk w' g ds T → Chg w w' [g] → wpList P ops Q rest (a.put o.dst undef) w') : wpList P ops Q (o :: rest) a w :=
  wpList_store_row hgd ty x y ho g ds.toArray hx hy T cs.toArray hB (by simpa using hi) (by simpa using hl) (Array.all_eq_true_iff_forall_mem.2 fun v hv => h1 v (by simpa using hv))
    (h _ (by simp) (hB.row ds) ((Chg.refl _ _).setRow _ _ (by simp)))

theorem wpList_load_blk {P : Program} {ops : Array Oper} {rest : List Oper} {o : Oper} {a : Act} {w : World} {Q : Exit → Act → World → Prop} (hgd : o.guard = none) (ty : TypeId) (x : Operand) (ho : o.op = .load ty x)
    (g : Nat) (hx : a.eval x = .pointer (some ⟨g, 0, none⟩)) (T : TypeId) (cs : List Value) (hB : Blk w g cs T) (d : TypeDesc)
    (hu : P.underlying ty = some d) (hd : (match d with | .struct _ | .array _ _ => true | _ => false) = true) (hi : (P.info? ty).map (·.size) = some cs.length)
    (h : wpList P ops Q rest (a.put o.dst (.agg cs.toArray)) w) : wpList P ops Q (o :: rest) a w :=
  wpList_load_row hgd ty x ho g hx T cs.toArray (0, 0) d hB hu hd (by simpa using hi) h

theorem results_blk {P : Program} {fn : Func} {p : Tmp} {ty : TypeId} (h : fn.results = #[.cell p ty]) (tmps : Array Value) (w : World) (g : Nat) (T : TypeId) (cs : List Value) (d : TypeDesc)
    (hp : tmps.getD p undef = .pointer (some ⟨g, 0, none⟩)) (hB : Blk w g cs T)
    (hu : P.underlying ty = some d) (hd : (match d with | .struct _ | .array _ _ => true | _ => false) = true) (hi : (P.info? ty).map (·.size) = some cs.length) :
    (results fn tmps).run P w = .ok (.agg cs.toArray) w :=
  results_cell_row h tmps w g T cs.toArray (0, 0) d hp hB hu hd (by simpa using hi)
end Go.Proofs.YtfdhgakalojahaaGreatDoor

namespace Go.Proofs.YtfdhgakalojahaaGreatDoor
open Go Go.RowKit

theorem bytesRow_get (s : ByteArray) (cap i : Nat) (h : i < s.size) : (bytesRow s cap)[i]? = some (.int .u8 (Utf.byteAt s i)) := by
  unfold bytesRow
  rw [Utf.byteAt_eq h, Array.getElem?_append_left (by simpa using h)]
  simp [h]
  rfl

theorem conv_bytes {P : Program} (w : World) (src dst e : TypeId) (s : ByteArray) (hs : P.underlying src = some .string) (hd : P.underlying dst = some (.slice e)) (he : P.underlying e = some (.int .u8)) :
    ∃ (cap : Nat) (w1 : World), (convert src dst (.string s)).run P w = .ok (.slice (some ⟨w.heap.size, 0, none⟩) s.size cap) w1 ∧ s.size ≤ cap ∧ Chg w w1 [] ∧ w1.heap.size = w.heap.size + 1 ∧
      ∀ i, i < s.size → w1.cell? ⟨w.heap.size, i, none⟩ = some (.int .u8 (Utf.byteAt s i)) := by
  refine ⟨_, _, run_bytes_of_string w src dst e s hs hd he, grownCap_ge _ _ _ _, (Chg.refl w []).drew.alloc _, by simp, fun i hi => ?_⟩
  show (w.drew.alloc _).cell? ⟨w.drew.heap.size, i, none⟩ = _
  rw [World.cell?_alloc_mark]
  exact bytesRow_get s _ i hi
end Go.Proofs.YtfdhgakalojahaaGreatDoor

namespace Go.Proofs.YtfdhgakalojahaaGreatDoor
open Go Go.RowKit

def dstOf (ops : Array Oper) (i : Nat) : Option Tmp := (ops[i]?).bind (·.dst)

def valOf (ops : Array Oper) (a : Act) (i : Nat) : Value := match dstOf ops i with | some t => a.tmps.getD t undef | none => undef

/-- each operation waits for earlier ones alone; the slots written are there, and are parted -/
def okOps (ops : Array Oper) (n : Nat) : Bool :=
  (List.range ops.size).all fun i => match ops[i]? with
    | some o => (o.after.all fun e => decide (e.on < i)) && (match o.dst with | some t => decide (t < n) && (List.range ops.size).all fun j => decide (j = i) || decide (dstOf ops j ≠ some t) | none => true)
    | none => true

theorem okOps.at {ops : Array Oper} {n : Nat} (h : okOps ops n = true) {i : Nat} {o : Oper} (ho : ops[i]? = some o) :
    (∀ e ∈ o.after, e.on < i) ∧ (∀ t, o.dst = some t → t < n ∧ ∀ j, j ≠ i → j < ops.size → dstOf ops j ≠ some t) := by
  have hi : i < ops.size := (Array.getElem?_eq_some_iff.1 ho).1
  have h1 := List.all_eq_true.1 h i (List.mem_range.2 hi)
  rw [ho] at h1
  simp only [Bool.and_eq_true] at h1
  refine ⟨fun e he => by simpa using Array.all_eq_true_iff_forall_mem.1 h1.1 e (by simpa using he), fun t ht => ?_⟩
  have h2 := h1.2
  rw [ht] at h2
  simp only [Bool.and_eq_true, decide_eq_true_eq] at h2
  refine ⟨h2.1, fun j hj hl => ?_⟩
  have h3 := List.all_eq_true.1 h2.2 j (List.mem_range.2 hl)
  simp only [Bool.or_eq_true, decide_eq_true_eq] at h3
  exact h3.resolve_left hj

/-- the frame, but for the slots that the region writes -/
structure Fr (ops : Array Oper) (base a : Act) : Prop where
  defers : a.defers = base.defers
  size : a.tmps.size = base.tmps.size
  same : ∀ t, (∀ j, j < ops.size → dstOf ops j ≠ some t) → a.tmps.getD t undef = base.tmps.getD t undef

def freeOf (ops : Array Oper) (t : Tmp) : Bool := (List.range ops.size).all fun j => decide (dstOf ops j ≠ some t)

theorem Fr.at {ops : Array Oper} {base a : Act} (h : Fr ops base a) (t : Tmp) (hf : freeOf ops t = true) : a.tmps.getD t undef = base.tmps.getD t undef :=
  h.same t fun j hj => by simpa using List.all_eq_true.1 hf j (List.mem_range.2 hj)

theorem Fr.refl (ops : Array Oper) (a : Act) : Fr ops a a := ⟨rfl, rfl, fun _ _ => rfl⟩

theorem put_size (a : Act) (d : Option Tmp) (v : Value) : (a.put d v).tmps.size = a.tmps.size := by cases d <;> simp [Act.put]
theorem put_defers (a : Act) (d : Option Tmp) (v : Value) : (a.put d v).defers = a.defers := by cases d <;> rfl
theorem put_other (a : Act) (d : Option Tmp) (v : Value) (t : Tmp) (h : d ≠ some t) : (a.put d v).tmps.getD t undef = a.tmps.getD t undef := by
  cases d with
  | none => rfl
  | some d =>
    have hne : d ≠ t := fun e => h (by rw [e])
    simp [Act.put, Array.getD_eq_getD_getElem?, Array.getElem?_setIfInBounds, hne]
theorem put_self (a : Act) (t : Tmp) (v : Value) (h : t < a.tmps.size) : (a.put (some t) v).tmps.getD t undef = v := by
  simp [Act.put, Array.getD_eq_getD_getElem?, Array.getElem?_setIfInBounds, h]

theorem filter_less {α : Type} (l : List α) (p q : α → Bool) (h : ∀ x ∈ l, q x = true → p x = true) (x : α) (hx : x ∈ l) (hp : p x = true) (hq : q x = false) : (l.filter q).length < (l.filter p).length := by
  induction l with
  | nil => cases hx
  | cons y l ih =>
    have hl : (l.filter q).length ≤ (l.filter p).length := by
      clear ih hx
      induction l with
      | nil => simp
      | cons z l ih2 =>
        have h' : ∀ x ∈ y :: l, q x = true → p x = true := fun x hx => h x (by simp only [List.mem_cons] at hx ⊢; rcases hx with h1 | h1 <;> simp [h1])
        have := ih2 h'
        have hz := h z (by simp)
        rw [List.filter_cons, List.filter_cons]
        cases hqz : q z
        · cases hpz : p z <;> simp <;> omega
        · rw [hz hqz]; simp; omega
    rw [List.filter_cons, List.filter_cons]
    rcases List.mem_cons.1 hx with rfl | hx'
    · rw [hp, hq]; simp; omega
    · have := ih (fun z hz => h z (List.mem_cons_of_mem _ hz)) hx'
      have hy := h y (by simp)
      cases hqy : q y
      · cases hpy : p y <;> simp <;> omega
      · rw [hy hqy]; simp; omega

def leftOf (ops : Array Oper) (listed : Array Bool) : Nat := ((List.range ops.size).filter fun i => !listed.getD i true).length

theorem set_getD (l : Array Bool) (i j : Nat) (d : Bool) : (l.setIfInBounds i true).getD j d = if i = j then (if i < l.size then true else d) else l.getD j d := by
  simp only [Array.getD_eq_getD_getElem?, Array.getElem?_setIfInBounds]
  by_cases h : i = j
  · subst h
    by_cases hl : i < l.size <;> simp [hl]
  · simp [h]

section
variable {P : Program} {ops : Array Oper} {Q : Exit → Act → World → Prop} {md : Region.Mode}

/-- THE LAW: 'VV i' is what is known of operation i's value behind it; 'St i' what operation i may do to the world; what one does leaves the others' words true. -/
theorem wpAny_each (base : Act) (Inv : World → Prop) (VV : Nat → Value → World → Prop) (St : Nat → World → World → Prop)
    (hok : okOps ops base.tmps.size = true)
    (hst : ∀ i j v w w', j ≠ i → VV j v w → St i w w' → VV j v w')
    (step : ∀ i o a w, ops[i]? = some o → Fr ops base a → Inv w → (∀ e ∈ o.after, Region.binds md e = true → VV e.on (valOf ops a e.on) w) →
      ∀ K : Act → World → Prop, (∀ v w', (o.dst = none → v = undef) → VV i v w' → St i w w' → Inv w' → K (a.put o.dst v) w') → if Region.wanted o (yielded ops a.tmps) = true then Oper.wp P o a w K Q else K (a.put o.dst undef) w)
    (fin : ∀ a w, Fr ops base a → Inv w → (∀ i, i < ops.size → VV i (valOf ops a i) w) → Q .normal a w) (w : World) (hw : Inv w) :
    wpAny P md ops Q ops.size (Array.replicate ops.size false) base w := by
  have key : ∀ (fuel : Nat) (listed : Array Bool) (a : Act) (w : World), listed.size = ops.size → leftOf ops listed ≤ fuel → Fr ops base a → Inv w →
      (∀ i, i < ops.size → listed.getD i false = true → VV i (valOf ops a i) w) → wpAny P md ops Q fuel listed a w := by
    intro fuel
    induction fuel with
    | zero =>
      intro listed a w hs hf hF hI hV
      have hall : ∀ i, i < ops.size → listed.getD i true = true := by
        intro i hi
        cases hc : listed.getD i true with
        | true => rfl
        | false =>
          have : i ∈ (List.range ops.size).filter fun i => !listed.getD i true := List.mem_filter.2 ⟨List.mem_range.2 hi, by simp only [hc]; rfl⟩
          have h2 := List.length_pos_of_mem this
          unfold leftOf at hf
          omega
      refine wpAny_done ?_ (fin a w hF hI fun i hi => hV i hi ?_) 0
      · unfold Region.ready
        rw [List.filter_eq_nil_iff]
        intro i hi
        rw [hall i (List.mem_range.1 hi)]
        simp
      · have := hall i hi
        rw [Array.getD_eq_getD_getElem?, Array.getElem?_eq_getElem (by omega)] at this ⊢
        exact this
    | succ fuel ih =>
      intro listed a w hs hf hF hI hV
      by_cases hr : Region.ready md ops listed = []
      · refine wpAny_done hr (fin a w hF hI fun i hi => hV i hi ?_) _
        -- the least that is not listed would be ready
        suffices h : ∀ k, k ≤ ops.size → ∀ i, i < k → listed.getD i false = true from h ops.size (Nat.le_refl _) i hi
        intro k
        induction k with
        | zero => intro _ i hi; omega
        | succ k ihk =>
          intro hk i hi'
          have hlow := ihk (by omega)
          by_cases hik : i < k
          · exact hlow i hik
          · have : i = k := by omega
            subst this
            cases hc : listed.getD i false with
            | true => rfl
            | false =>
              exfalso
              have hmem : i ∈ Region.ready md ops listed := by
                unfold Region.ready
                refine List.mem_filter.2 ⟨List.mem_range.2 (by omega), ?_⟩
                have ho : ops[i]? = some ops[i] := Array.getElem?_eq_getElem (by omega)
                have hc' : listed.getD i true = false := by
                  rw [Array.getD_eq_getD_getElem?, Array.getElem?_eq_getElem (by omega)] at hc ⊢
                  exact hc
                rw [hc', ho]
                simp only [Bool.not_false, Bool.true_and, Option.map_some, Option.getD_some]
                rw [Array.all_eq_true_iff_forall_mem]
                intro e he
                have := (okOps.at hok ho).1 e he
                rw [hlow e.on this]
                simp
              rw [hr] at hmem
              cases hmem
      · refine wpAny_all rfl hr fun i hi => ?_
        have hi' := List.mem_filter.1 hi
        have hil : i < ops.size := List.mem_range.1 hi'.1
        have ho : ops[i]? = some ops[i] := Array.getElem?_eq_getElem hil
        obtain ⟨hun, haf⟩ := Bool.and_eq_true_iff.1 hi'.2
        have hun' : listed.getD i true = false := by simpa using hun
        rw [ho] at haf
        simp only [Option.map_some, Option.getD_some] at haf
        refine wpOp_step ho fun K hK => step i ops[i] a w ho hF hI (fun e he hb => ?_) K fun v w' hvn hv hS hI' => hK _ _ ?_
        · have h1 := Array.all_eq_true_iff_forall_mem.1 haf e he
          rw [hb] at h1
          simp only [Bool.not_true, Bool.false_or] at h1
          exact hV e.on (Nat.lt_trans ((okOps.at hok ho).1 e he) hil) h1
        · refine ih _ _ _ (by simp [hs]) ?_ ?_ hI' ?_
          · have : leftOf ops (listed.setIfInBounds i true) < leftOf ops listed := by
              unfold leftOf
              refine filter_less _ _ _ (fun x hx hq => ?_) i (List.mem_range.2 hil) (by rw [hun']; rfl) ?_
              · rw [set_getD] at hq
                by_cases h : i = x
                · rw [if_pos h, if_pos (by omega)] at hq; simp at hq
                · rwa [if_neg h] at hq
              · rw [set_getD, if_pos rfl, if_pos (by omega)]; rfl
            omega
          · refine ⟨by rw [put_defers, hF.defers], by rw [put_size, hF.size], fun t ht => ?_⟩
            rw [put_other _ _ _ _ (by have := ht i hil; unfold dstOf at this; rw [ho] at this; exact this), hF.same t ht]
          · intro j hj hl
            rw [set_getD] at hl
            by_cases h : i = j
            · subst h
              unfold valOf dstOf
              rw [ho]
              simp only [Option.bind_some]
              cases hd : ops[i].dst with
              | none => rw [hvn hd] at hv; exact hv
              | some t =>
                have := ((okOps.at hok ho).2 t hd).1
                simp only
                rw [put_self _ _ _ (by rw [hF.size]; exact this)]
                exact hv
            · rw [if_neg h] at hl
              have hold := hV j hj hl
              have heq : valOf ops (a.put ops[i].dst v) j = valOf ops a j := by
                unfold valOf
                cases hd : dstOf ops j with
                | none => rfl
                | some t =>
                  simp only
                  refine put_other _ _ _ _ fun e => ?_
                  exact ((okOps.at hok ho).2 t e).2 j (fun e => h e.symm) hj hd
              rw [heq]
              exact hst i j _ _ _ (fun e => h e.symm) hold hS
  refine key _ _ _ _ (by simp) ?_ (Fr.refl _ _) hw fun i hi hl => ?_
  · unfold leftOf
    exact Nat.le_trans (List.length_filter_le _ _) (by simp)
  · simp [Array.getD_eq_getD_getElem?, hi] at hl
end
end Go.Proofs.YtfdhgakalojahaaGreatDoor

namespace Go.Proofs.YtfdhgakalojahaaGreatDoor
open Go Go.RowKit

def upd (f : Nat → Value) (i : Nat) (v : Value) : Nat → Value := fun k => if k = i then v else f k
theorem upd_same (f : Nat → Value) (i : Nat) (v : Value) : upd f i v i = v := if_pos rfl
theorem upd_other (f : Nat → Value) {i k : Nat} (v : Value) (h : k ≠ i) : upd f i v k = f k := if_neg h

/-- the slots that a region writes -/
def dstsOf (ops : Array Oper) : List Tmp := (List.range ops.size).filterMap fun i => dstOf ops i

theorem fold_set_size : ∀ (l : List Tmp) (g : Tmp → Value) (t : Array Value), (l.foldl (fun t k => t.setIfInBounds k (g k)) t).size = t.size
  | [], _, _ => rfl
  | k :: l, g, t => by rw [List.foldl_cons, fold_set_size l g]; simp

theorem fold_set_get (g : Tmp → Value) (k : Tmp) : ∀ (l : List Tmp) (t : Array Value), k < t.size → (l.foldl (fun t k => t.setIfInBounds k (g k)) t).getD k undef = if k ∈ l then g k else t.getD k undef
  | [], t, _ => by simp
  | x :: l, t, hk => by
    rw [List.foldl_cons, fold_set_get g k l _ (by simpa using hk)]
    by_cases h : k ∈ l
    · rw [if_pos h, if_pos (List.mem_cons_of_mem _ h)]
    · rw [if_neg h]
      by_cases hx : k = x
      · subst hx
        rw [if_pos (List.mem_cons_self ..)]
        simp [Array.getD_eq_getD_getElem?, hk]
      · rw [if_neg (by simp [hx, h])]
        have hne : x ≠ k := fun e => hx e.symm
        simp [Array.getD_eq_getD_getElem?, Array.getElem?_setIfInBounds, hne]

/-- the frame behind a region, written out -/
theorem Fr.form {ops : Array Oper} {base a : Act} (h : Fr ops base a) : a.tmps = (dstsOf ops).foldl (fun t k => t.setIfInBounds k (a.tmps.getD k undef)) base.tmps := by
  have hs := fold_set_size (dstsOf ops) (fun k => a.tmps.getD k undef) base.tmps
  refine Array.ext (by rw [hs, h.size]) fun k h1 h2 => ?_
  have hk : k < base.tmps.size := by rw [← h.size]; exact h1
  have h3 := fold_set_get (fun k => a.tmps.getD k undef) k (dstsOf ops) base.tmps hk
  have e1 : a.tmps.getD k undef = a.tmps[k] := by simp [Array.getD_eq_getD_getElem?, h1]
  have e2 : ((dstsOf ops).foldl (fun t k => t.setIfInBounds k (a.tmps.getD k undef)) base.tmps).getD k undef = ((dstsOf ops).foldl (fun t k => t.setIfInBounds k (a.tmps.getD k undef)) base.tmps)[k] := by rw [Array.getD_eq_getD_getElem?, Array.getElem?_eq_getElem h2]; rfl
  rw [← e1, ← e2, h3]
  by_cases hm : k ∈ dstsOf ops
  · rw [if_pos hm]
  · rw [if_neg hm]
    exact h.same k fun j hj hd => hm (List.mem_filterMap.2 ⟨j, List.mem_range.2 hj, hd⟩)

theorem Fr.form' {ops : Array Oper} {base a : Act} (h : Fr ops base a) (ds : List Tmp) (hd : dstsOf ops = ds) : a.tmps = ds.foldl (fun t k => t.setIfInBounds k (a.tmps.getD k undef)) base.tmps := hd ▸ h.form

/-- each operation waits for earlier ones alone, where it waits; the slots written are there, and are parted -/
def okOps2 (md : Region.Mode) (ops : Array Oper) (n : Nat) : Bool :=
  (List.range ops.size).all fun i => match ops[i]? with
    | some o => (o.after.all fun e => !Region.binds md e || decide (e.on < i)) && (match o.dst with | some t => decide (t < n) && (List.range ops.size).all fun j => decide (j = i) || decide (dstOf ops j ≠ some t) | none => true)
    | none => true

theorem okOps2.at {md : Region.Mode} {ops : Array Oper} {n : Nat} (h : okOps2 md ops n = true) {i : Nat} {o : Oper} (ho : ops[i]? = some o) :
    (∀ e ∈ o.after, Region.binds md e = true → e.on < i) ∧ (∀ t, o.dst = some t → t < n ∧ ∀ j, j ≠ i → j < ops.size → dstOf ops j ≠ some t) := by
  have hi : i < ops.size := (Array.getElem?_eq_some_iff.1 ho).1
  have h1 := List.all_eq_true.1 h i (List.mem_range.2 hi)
  rw [ho] at h1
  simp only [Bool.and_eq_true] at h1
  refine ⟨fun e he hb => ?_, fun t ht => ?_⟩
  · have h3 := Array.all_eq_true_iff_forall_mem.1 h1.1 e he
    rw [hb] at h3
    simpa using h3
  have h2 := h1.2
  rw [ht] at h2
  simp only [Bool.and_eq_true, decide_eq_true_eq] at h2
  refine ⟨h2.1, fun j hj hl => ?_⟩
  have h3 := List.all_eq_true.1 h2.2 j (List.mem_range.2 hl)
  simp only [Bool.or_eq_true, decide_eq_true_eq] at h3
  exact h3.resolve_left hj

theorem valOf_put {md : Region.Mode} {ops : Array Oper} {a : Act} {i : Nat} {o : Oper} {v : Value} (ho : ops[i]? = some o) (hok : okOps2 md ops a.tmps.size = true) (hvn : o.dst = none → v = undef) : valOf ops (a.put o.dst v) = upd (valOf ops a) i v := by
  funext j
  have hil : i < ops.size := (Array.getElem?_eq_some_iff.1 ho).1
  by_cases h : j = i
  · subst h
    rw [upd_same]
    unfold valOf dstOf
    rw [ho]
    simp only [Option.bind_some]
    cases hd : o.dst with
    | none => exact (hvn hd).symm
    | some t =>
      simp only
      exact put_self _ _ _ ((okOps2.at hok ho).2 t hd).1
  · rw [upd_other _ _ h]
    unfold valOf
    cases hd : dstOf ops j with
    | none => rfl
    | some t =>
      simp only
      refine put_other _ _ _ _ fun e => ?_
      have hjl : j < ops.size := by
        unfold dstOf at hd
        cases hj : ops[j]? with
        | none => rw [hj] at hd; cases hd
        | some o' => exact (Array.getElem?_eq_some_iff.1 hj).1
      exact ((okOps2.at hok ho).2 t e).2 j h hjl hd

section
variable {P : Program} {ops : Array Oper} {Q : Exit → Act → World → Prop} {md : Region.Mode}

/-- THE LAW: as wpAny_each; each word may speak of all values. -/
theorem wpAny_each2 (base : Act) (Inv : (Nat → Value) → World → Prop) (VV : Nat → (Nat → Value) → World → Prop) (St : Nat → (Nat → Value) → World → World → Prop)
    (hok : okOps2 md ops base.tmps.size = true)
    (hst : ∀ i j f v w w', j ≠ i → (∀ o, ops[j]? = some o → ∀ e ∈ o.after, Region.binds md e = true → e.on ≠ i) → VV j f w → Inv f w → St i f w w' → VV j (upd f i v) w')
    (step : ∀ i o a w, ops[i]? = some o → Fr ops base a → Inv (valOf ops a) w → (∀ e ∈ o.after, Region.binds md e = true → VV e.on (valOf ops a) w) →
      ∀ K : Act → World → Prop, (∀ v w', (o.dst = none → v = undef) → VV i (upd (valOf ops a) i v) w' → St i (valOf ops a) w w' → Inv (upd (valOf ops a) i v) w' → K (a.put o.dst v) w') → if Region.wanted o (yielded ops a.tmps) = true then Oper.wp P o a w K Q else K (a.put o.dst undef) w)
    (fin : ∀ a w, Fr ops base a → Inv (valOf ops a) w → (∀ i, i < ops.size → VV i (valOf ops a) w) → Q .normal a w) (w : World) (hw : Inv (valOf ops base) w) :
    wpAny P md ops Q ops.size (Array.replicate ops.size false) base w := by
  have key : ∀ (fuel : Nat) (listed : Array Bool) (a : Act) (w : World), listed.size = ops.size → leftOf ops listed ≤ fuel → Fr ops base a → Inv (valOf ops a) w →
      (∀ i o, ops[i]? = some o → listed.getD i false = true → ∀ e ∈ o.after, Region.binds md e = true → listed.getD e.on false = true) →
      (∀ i, i < ops.size → listed.getD i false = true → VV i (valOf ops a) w) → wpAny P md ops Q fuel listed a w := by
    intro fuel
    induction fuel with
    | zero =>
      intro listed a w hs hf hF hI hD hV
      have hall : ∀ i, i < ops.size → listed.getD i true = true := by
        intro i hi
        cases hc : listed.getD i true with
        | true => rfl
        | false =>
          have : i ∈ (List.range ops.size).filter fun i => !listed.getD i true := List.mem_filter.2 ⟨List.mem_range.2 hi, by simp only [hc]; rfl⟩
          have h2 := List.length_pos_of_mem this
          unfold leftOf at hf
          omega
      refine wpAny_done ?_ (fin a w hF hI fun i hi => hV i hi ?_) 0
      · unfold Region.ready
        rw [List.filter_eq_nil_iff]
        intro i hi
        rw [hall i (List.mem_range.1 hi)]
        simp
      · have := hall i hi
        rw [Array.getD_eq_getD_getElem?, Array.getElem?_eq_getElem (by omega)] at this ⊢
        exact this
    | succ fuel ih =>
      intro listed a w hs hf hF hI hD hV
      by_cases hr : Region.ready md ops listed = []
      · refine wpAny_done hr (fin a w hF hI fun i hi => hV i hi ?_) _
        -- the least that is not listed would be ready
        suffices h : ∀ k, k ≤ ops.size → ∀ i, i < k → listed.getD i false = true from h ops.size (Nat.le_refl _) i hi
        intro k
        induction k with
        | zero => intro _ i hi; omega
        | succ k ihk =>
          intro hk i hi'
          have hlow := ihk (by omega)
          by_cases hik : i < k
          · exact hlow i hik
          · have : i = k := by omega
            subst this
            cases hc : listed.getD i false with
            | true => rfl
            | false =>
              exfalso
              have hmem : i ∈ Region.ready md ops listed := by
                unfold Region.ready
                refine List.mem_filter.2 ⟨List.mem_range.2 (by omega), ?_⟩
                have ho : ops[i]? = some ops[i] := Array.getElem?_eq_getElem (by omega)
                have hc' : listed.getD i true = false := by
                  rw [Array.getD_eq_getD_getElem?, Array.getElem?_eq_getElem (by omega)] at hc ⊢
                  exact hc
                rw [hc', ho]
                simp only [Bool.not_false, Bool.true_and, Option.map_some, Option.getD_some]
                rw [Array.all_eq_true_iff_forall_mem]
                intro e he
                cases hb : Region.binds md e with
                | false => rfl
                | true =>
                  have := (okOps2.at hok ho).1 e he hb
                  rw [hlow e.on this]
                  rfl
              rw [hr] at hmem
              cases hmem
      · refine wpAny_all rfl hr fun i hi => ?_
        have hi' := List.mem_filter.1 hi
        have hil : i < ops.size := List.mem_range.1 hi'.1
        have ho : ops[i]? = some ops[i] := Array.getElem?_eq_getElem hil
        obtain ⟨hun, haf⟩ := Bool.and_eq_true_iff.1 hi'.2
        have hun' : listed.getD i true = false := by simpa using hun
        rw [ho] at haf
        simp only [Option.map_some, Option.getD_some] at haf
        have hdeps : ∀ e ∈ ops[i].after, Region.binds md e = true → listed.getD e.on false = true := fun e he hb => by
          have h1 := Array.all_eq_true_iff_forall_mem.1 haf e he
          rw [hb] at h1
          simpa using h1
        refine wpOp_step ho fun K hK => step i ops[i] a w ho hF hI (fun e he hb => hV e.on (Nat.lt_trans ((okOps2.at hok ho).1 e he hb) hil) (hdeps e he hb)) K fun v w' hvn hv hS hI' => hK _ _ ?_
        have heq : valOf ops (a.put ops[i].dst v) = upd (valOf ops a) i v := valOf_put ho (by rw [hF.size]; exact hok) hvn
        refine ih _ _ _ (by simp [hs]) ?_ ?_ (by rw [heq]; exact hI') ?_ ?_
        · have : leftOf ops (listed.setIfInBounds i true) < leftOf ops listed := by
            unfold leftOf
            refine filter_less _ _ _ (fun x hx hq => ?_) i (List.mem_range.2 hil) (by rw [hun']; rfl) ?_
            · rw [set_getD] at hq
              by_cases h : i = x
              · rw [if_pos h, if_pos (by omega)] at hq; simp at hq
              · rwa [if_neg h] at hq
            · rw [set_getD, if_pos rfl, if_pos (by omega)]; rfl
          omega
        · refine ⟨by rw [put_defers, hF.defers], by rw [put_size, hF.size], fun t ht => ?_⟩
          rw [put_other _ _ _ _ (by have := ht i hil; unfold dstOf at this; rw [ho] at this; exact this), hF.same t ht]
        · intro j o hj hl e he hb
          have hjl : j < ops.size := (Array.getElem?_eq_some_iff.1 hj).1
          rw [set_getD] at hl
          have grow : ∀ n, listed.getD n false = true → (listed.setIfInBounds i true).getD n false = true := fun n hn => by
            rw [set_getD]
            by_cases h : i = n
            · rw [if_pos h, if_pos (by omega)]
            · rw [if_neg h]; exact hn
          by_cases h : i = j
          · subst h
            have : o = ops[i] := Option.some.inj (hj.symm.trans ho)
            subst this
            exact grow _ (hdeps e he hb)
          · rw [if_neg h] at hl
            exact grow _ (hD j o hj hl e he hb)
        · intro j hj hl
          rw [set_getD] at hl
          rw [heq]
          by_cases h : i = j
          · subst h
            exact hv
          · rw [if_neg h] at hl
            have hold := hV j hj hl
            refine hst i j _ _ _ _ (fun e => h e.symm) (fun o ho' e he hb hon => ?_) hold hI hS
            have h1 := hD j o ho' hl e he hb
            rw [hon] at h1
            have h2 : listed.getD i false = listed.getD i true := by
              rw [Array.getD_eq_getD_getElem?, Array.getD_eq_getD_getElem?, Array.getElem?_eq_getElem (by omega)]
              rfl
            rw [h2, hun'] at h1
            cases h1
  refine key _ _ _ _ (by simp) ?_ (Fr.refl _ _) hw (fun i o hi hl => ?_) fun i hi hl => ?_
  · unfold leftOf
    exact Nat.le_trans (List.length_filter_le _ _) (by simp)
  · have hi := (Array.getElem?_eq_some_iff.1 hi).1
    simp [Array.getD_eq_getD_getElem?, hi] at hl
  · simp [Array.getD_eq_getD_getElem?, hi] at hl
end
end Go.Proofs.YtfdhgakalojahaaGreatDoor

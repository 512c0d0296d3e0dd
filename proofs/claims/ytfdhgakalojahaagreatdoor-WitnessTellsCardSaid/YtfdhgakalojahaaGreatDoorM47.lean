/- THE ROW WitnessTells, part one: a head by value, opened; what reads alike in every world. -/
import Derived.WalkKit
import Derived.ProofKit
import Derived.OpenShut
import Derived.Deep.DeepHandedRow
import Derived.Lib.LaidTab
import Derived.Stop.LaidErr
import Derived.Test.YtfdhgakalojahaaGreatDoorM46
set_option linter.unusedSimpArgs false
set_option linter.unusedVariables false
set_option linter.unnecessarySimpa false
set_option linter.unusedSectionVars false
namespace Go.Proofs.YtfdhgakalojahaaGreatDoor
open Go Go.RowKit Go.ChangeShapes Go.WideShapes

/-- values of this type read alike in every world -/
def FlatT (P : Program) (t : TypeId) : Prop := ∀ (H : Type) (enc : TypeId × Value → H) (fuel : Nat) (cs : List Value) (x : DataW H × List MemPlace) (w : World) (b : Nat) (s : Nat → Bool) (h : Bool),
  DataW.trod enc P w b s h fuel t cs = some x → ∀ (w' : World) (b' : Nat) (s' : Nat → Bool) (h' : Bool), DataW.trod enc P w' b' s' h' fuel t cs = some x

theorem FlatT.string {P : Program} {t : TypeId} (ht : P.underlying t = some .string) : FlatT P t := by
  intro H enc fuel cs x w b s h hx w' b' s' h'
  obtain ⟨q, rfl, rfl, hs⟩ := DataW.trod_string ht hx
  cases fuel with
  | zero => simp [DataW.trod] at hx
  | succ n => simp [DataW.trod, ht, hs]

theorem FlatT.int {P : Program} {t : TypeId} {k : IntKind} (ht : P.underlying t = some (.int k)) : FlatT P t := by
  intro H enc fuel cs x w b s h hx w' b' s' h'
  obtain ⟨q, rfl, rfl, hs⟩ := DataW.trod_int ht hx
  cases fuel with
  | zero => simp [DataW.trod] at hx
  | succ n => simp [DataW.trod, ht, hs]

theorem mapM_mono {α β : Type} {f g : α → Option β} : ∀ {l : List α} {r : List β}, l.mapM f = some r → (∀ a ∈ l, ∀ y, f a = some y → g a = some y) → l.mapM g = some r
  | [], r, h, _ => by simpa using h
  | x :: l, r, h, hg => by
    simp only [List.mapM_cons, Option.bind_eq_bind, Option.bind_eq_some_iff, Option.pure_def, Option.some.injEq] at h ⊢
    obtain ⟨b, hb, r', hr', rfl⟩ := h
    exact ⟨b, hg x (by simp) b hb, r', mapM_mono hr' (fun a ha => hg a (by simp [ha])), rfl⟩

theorem FlatT.array {P : Program} {t e : TypeId} {n : Nat} (ht : P.underlying t = some (.array n e)) (he : FlatT P e) : FlatT P t := by
  intro H enc fuel cs x w b s h hx w' b' s' h'
  cases fuel with
  | zero => simp [DataW.trod] at hx
  | succ m =>
    have e1 : ∀ w b s h, DataW.trod enc P w b s h (m + 1) t cs = if cs.length = P.cellsOf t then ((List.range n).mapM fun i => DataW.trod enc P w b s h m e ((cs.drop (i * P.cellsOf e)).take (P.cellsOf e))).map fun xs => (.agg (xs.map (·.1)), xs.flatMap (·.2)) else none := by
      intro w b s h
      conv => lhs; unfold DataW.trod; rw [ht]
    rw [e1] at hx ⊢
    split at hx
    · next hl =>
      rw [if_pos hl]
      simp only [Option.map_eq_some_iff] at hx ⊢
      obtain ⟨xs, h1, h2⟩ := hx
      exact ⟨xs, mapM_mono h1 fun i _ y hy => he H enc m _ y w b s h hy w' b' s' h', h2⟩
    · cases hx

theorem FlatT.struct {P : Program} {t : TypeId} {fs : Array Field} (ht : P.underlying t = some (.struct fs)) (he : ∀ f ∈ fs.toList, FlatT P f.type) : FlatT P t := by
  intro H enc fuel cs x w b s h hx w' b' s' h'
  cases fuel with
  | zero => simp [DataW.trod] at hx
  | succ m =>
    have e1 : ∀ w b s h, DataW.trod enc P w b s h (m + 1) t cs = if cs.length = P.cellsOf t then (fs.toList.mapM fun f => DataW.trod enc P w b s h m f.type ((cs.drop f.offset).take (P.cellsOf f.type))).map fun xs => (.agg (xs.map (·.1)), xs.flatMap (·.2)) else none := by
      intro w b s h
      conv => lhs; unfold DataW.trod; rw [ht]
    rw [e1] at hx ⊢
    split at hx
    · next hl =>
      rw [if_pos hl]
      simp only [Option.map_eq_some_iff] at hx ⊢
      obtain ⟨xs, h1, h2⟩ := hx
      exact ⟨xs, mapM_mono h1 fun f hf y hy => he f hf H enc m _ y w b s h hy w' b' s' h', h2⟩
    · cases hx

theorem flat_head : FlatT Tryz.prog 25 := by
  refine FlatT.struct Tryz.underlying25 fun f hf => ?_
  have hm : (f.type, f.offset) ∈ ((Tryz.prog.fieldsOf 25).toList.map fun f => (f.type, f.offset)) := List.mem_map.2 ⟨f, by rw [show Tryz.prog.fieldsOf 25 = _ from by unfold Program.fieldsOf; rw [Tryz.underlying25]]; exact hf, rfl⟩
  rw [head_fields] at hm
  simp only [List.mem_cons, List.mem_nil_iff, or_false, Prod.mk.injEq] at hm
  rcases hm with ⟨h1, _⟩ | ⟨h1, _⟩ | ⟨h1, _⟩ | ⟨h1, _⟩ <;> rw [h1]
  · exact FlatT.string Tryz.underlying9
  · exact FlatT.int Tryz.underlying3
  · exact FlatT.array Tryz.underlying23 (FlatT.int Tryz.underlying5)
  · exact FlatT.int Tryz.underlying3

theorem cells_string : Tryz.prog.cellsOf 9 = 1 := by kernel_rfl
theorem cells_int : Tryz.prog.cellsOf 3 = 1 := by kernel_rfl
theorem cells_byte : Tryz.prog.cellsOf 5 = 1 := by kernel_rfl
theorem cells_dg : Tryz.prog.cellsOf 23 = 32 := by kernel_rfl
theorem cells_hd : Tryz.prog.cellsOf 25 = 35 := by kernel_rfl

theorem one_at {L : List Value} {i : Nat} {v : Value} (h : (L.drop i).take 1 = [v]) : L[i]? = some v := by
  have := congrArg (fun l => l[0]?) h
  simpa [List.getElem?_take, List.getElem?_drop] using this

/-- thirty-two numbers that are bytes -/
theorem bytes_of {L : List Value} (h : ∀ i, i < L.length → ∃ z : Int, L[i]? = some (.int .u8 z) ∧ 0 ≤ z ∧ z ≤ 255) : ∃ rb : List UInt8, rb.map byV = L := by
  induction L with
  | nil => exact ⟨[], rfl⟩
  | cons v L ih =>
    obtain ⟨rb, hrb⟩ := ih fun i hi => by
      obtain ⟨z, h1, h2⟩ := h (i + 1) (by simpa using hi)
      exact ⟨z, by simpa using h1, h2⟩
    obtain ⟨z, h1, h2, h3⟩ := h 0 (by simp)
    simp only [List.getElem?_cons_zero, Option.some.injEq] at h1
    refine ⟨UInt8.ofNat z.toNat :: rb, ?_⟩
    rw [List.map_cons, hrb, h1]
    congr 1
    have : (UInt8.ofNat z.toNat).toNat = z.toNat := by rw [UInt8.toNat_ofNat']; omega
    show Value.int .u8 ((UInt8.ofNat z.toNat).toNat : Int) = _
    rw [this]
    congr 1
    omega

theorem open_head {H : Type} {enc : TypeId × Value → H} {w : World} {b : Nat} {s : Nat → Bool} {hd : Bool} {fuel : Nat} {cs : List Value} {x : DataW H × List MemPlace} (h : DataW.trod enc Tryz.prog w b s hd fuel 25 cs = some x) :
    ∃ (o : ByteArray) (n t : Int) (rb : List UInt8), rb.length = 32 ∧ cs = hdL o n rb t := by
  obtain ⟨xs, m, _, _, hl, hxl, hf⟩ := DataW.trod_struct Tryz.underlying25 h
  rw [cells_hd] at hl
  have hxl' : xs.length = 4 := hxl
  obtain ⟨x0, x1, x2, x3, rfl⟩ : ∃ x0 x1 x2 x3, xs = [x0, x1, x2, x3] := by
    match xs, hxl' with
    | [a, b, c, d], _ => exact ⟨a, b, c, d, rfl⟩
  have f0 : DataW.trod enc Tryz.prog w b s hd m 9 ((cs.drop 0).take (Tryz.prog.cellsOf 9)) = some x0 := hf 0 _ rfl
  have f1 : DataW.trod enc Tryz.prog w b s hd m 3 ((cs.drop 1).take (Tryz.prog.cellsOf 3)) = some x1 := hf 1 _ rfl
  have f2 : DataW.trod enc Tryz.prog w b s hd m 23 ((cs.drop 2).take (Tryz.prog.cellsOf 23)) = some x2 := hf 2 _ rfl
  have f3 : DataW.trod enc Tryz.prog w b s hd m 3 ((cs.drop 34).take (Tryz.prog.cellsOf 3)) = some x3 := hf 3 _ rfl
  rw [cells_string] at f0
  rw [cells_int] at f1 f3
  rw [cells_dg] at f2
  obtain ⟨o, ho, _, _⟩ := DataW.trod_string Tryz.underlying9 f0
  obtain ⟨n, hn, _, _⟩ := DataW.trod_int Tryz.underlying3 f1
  obtain ⟨t, ht, _, _⟩ := DataW.trod_int Tryz.underlying3 f3
  obtain ⟨ys, m2, _, _, hL, hyl, hg⟩ := DataW.trod_array Tryz.underlying23 f2
  rw [cells_dg] at hL
  obtain ⟨rb, hrb⟩ := bytes_of (L := (cs.drop 2).take 32) fun i hi => by
    rw [hL] at hi
    have h1 := hg i hi
    rw [cells_byte, Nat.mul_one] at h1
    obtain ⟨y, hy⟩ : ∃ y, ys[i]? = some y := ⟨_, List.getElem?_eq_getElem (by omega)⟩
    rw [hy] at h1
    obtain ⟨z, h2, _, h3⟩ := DataW.trod_int Tryz.underlying5 h1
    have := bounds_u8 h3
    exact ⟨z, one_at h2, this.1, this.2⟩
  refine ⟨o, n, t, rb, by rw [← List.length_map (f := byV), hrb, hL], ?_⟩
  unfold hdL
  rw [hrb]
  have a1 : cs = cs.take 1 ++ cs.drop 1 := (List.take_append_drop 1 cs).symm
  have a2 : cs.drop 1 = (cs.drop 1).take 1 ++ cs.drop 2 := by
    have := (List.take_append_drop 1 (cs.drop 1)).symm
    rwa [List.drop_drop] at this
  have a3 : cs.drop 2 = (cs.drop 2).take 32 ++ cs.drop 34 := by
    have := (List.take_append_drop 32 (cs.drop 2)).symm
    rwa [List.drop_drop] at this
  have a4 : cs.drop 34 = (cs.drop 34).take 1 := (List.take_of_length_le (by rw [List.length_drop, hl]; omega)).symm
  have a0 : cs.take 1 = [.string o] := by simpa using ho
  rw [ht] at a4
  rw [hn] at a2
  conv => lhs; rw [a1, a0, a2, a3, a4]
  simp
end Go.Proofs.YtfdhgakalojahaaGreatDoor

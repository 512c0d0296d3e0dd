/- THE ROW WitnessReads, part one: a list of steps, opened. -/
import Derived.WalkKit
import Derived.ProofKit
import Derived.OpenShut
import Derived.SizedLaws
import Derived.WideKeyArgs
import Derived.Deep.DeepHandedRow
import Derived.Test.YtfdhgakalojahaaGreatDoorM37
set_option linter.unusedSimpArgs false
set_option linter.unusedVariables false
set_option linter.unnecessarySimpa false
set_option linter.unusedSectionVars false
namespace Go.Proofs.YtfdhgakalojahaaGreatDoor
open Go Go.RowKit Go.ChangeShapes Go.WideShapes

theorem cells_string1 : Tryz.prog.cellsOf 9 = 1 := by kernel_rfl
theorem cells_int1 : Tryz.prog.cellsOf 3 = 1 := by kernel_rfl
theorem cells_sort1 : Tryz.prog.cellsOf 46 = 1 := by kernel_rfl
theorem cells_bool1 : Tryz.prog.cellsOf 4 = 1 := by kernel_rfl
theorem cells_u641 : Tryz.prog.cellsOf 38 = 1 := by kernel_rfl
theorem cells_strs1 : Tryz.prog.cellsOf 40 = 1 := by kernel_rfl
theorem cells_step6 : Tryz.prog.cellsOf 48 = 6 := by kernel_rfl
theorem bytes_string16 : Tryz.prog.bytesOf 9 = 16 := by kernel_rfl
theorem bytes_step72 : Tryz.prog.bytesOf 48 = 72 := by kernel_rfl
theorem step_fields : ((Tryz.prog.fieldsOf 48).toList.map fun f => (f.type, f.offset)) = [(46, 0), (4, 1), (38, 2), (9, 3), (3, 4), (40, 5)] := by kernel_rfl

/-- cells that are read one by one -/
theorem cells_of {w : World} {base n : Nat} {a : Addr} {cs : List Value} (h : w.cells? base a n = some cs) : cs.length = n ∧ ∀ i v, cs[i]? = some v → w.cell? (a.add i) = some v := by
  unfold World.cells? at h
  split at h
  · have hl := mapM_some_length h
    rw [List.length_range] at hl
    refine ⟨hl, fun i v hv => ?_⟩
    have hi : i < n := by rw [← hl]; exact (List.getElem?_eq_some_iff.1 hv).1
    rw [mapM_some_get h i i (by simp [hi])]
    exact hv
  · cases h

theorem add_add' (a : Addr) (i j : Nat) (h : a.spot = none) : (a.add i).add j = ⟨a.block, a.off + (i + j), none⟩ := by
  obtain ⟨b, o, s⟩ := a
  subst h
  unfold Addr.add
  by_cases hi : i = 0 <;> by_cases hj : j = 0 <;> simp_all [Nat.add_assoc]

theorem spot_of {w : World} {a : Addr} {v : Value} (h : w.cell? a = some v) : a.spot = none := by
  unfold World.cell? at h
  split at h
  · split at h
    · cases h
    · rename_i hs
      cases hsp : a.spot with
      | none => rfl
      | some x => rw [hsp] at hs; exact absurd rfl hs
  · cases h

/-- the rows of a slice: n rows of sz cells each, read one by one -/
theorem rows_of {w : World} {base sz n : Nat} {a : Addr} {R : Nat → List Value → Prop} (hsz : 0 < sz) (h : ∀ i, i < n → ∃ cs, w.cells? base (a.add (i * sz)) sz = some cs ∧ R i cs) :
    ∀ i, i < n → ∃ cs, R i cs ∧ cs.length = sz ∧ ∀ j v, cs[j]? = some v → a = ⟨a.block, a.off, none⟩ ∧ w.cell? ⟨a.block, a.off + (i * sz + j), none⟩ = some v := by
  intro i hi
  have hsp : a.spot = none := by
    obtain ⟨cs, hc, _⟩ := h 0 (by omega)
    obtain ⟨hl, hg⟩ := cells_of hc
    have := hg 0 _ (List.getElem?_eq_getElem (by omega))
    have h2 := spot_of this
    simpa [Addr.add] using h2
  obtain ⟨cs, hc, hr⟩ := h i hi
  obtain ⟨hl, hg⟩ := cells_of hc
  refine ⟨cs, hr, hl, fun j v hv => ⟨by obtain ⟨b, o, s⟩ := a; subst hsp; rfl, ?_⟩⟩
  rw [← add_add' a _ _ hsp]
  exact hg j v hv

theorem weights_all {H : Type} {P : Program} {e : TypeId} {n : Nat} : ∀ {ds : List (DataW H)} {d : DataW H}, d ∈ ds → n ∈ d.weights P e → n ∈ DataW.weightsAll P e ds
  | x :: ds, d, hd, hn => by
    simp only [DataW.weightsAll, List.mem_append]
    rcases List.mem_cons.1 hd with rfl | hd
    · exact .inl hn
    · exact .inr (weights_all hd hn)

theorem six_of {cs : List Value} (h : cs.length = 6) : ∃ c0 c1 c2 c3 c4 c5, cs = [c0, c1, c2, c3, c4, c5] := by
  match cs, h with
  | [a, b, c, d, e, f], _ => exact ⟨a, b, c, d, e, f, rfl⟩

def Light {H : Type} (d : DataW H) (t : TypeId) : Prop := ∀ n ∈ d.weights Tryz.prog t, n ≤ 140737488355328

theorem open_strs {H : Type} {enc : TypeId × Value → H} {w : World} {b : Nat} {s : Nat → Bool} {hd : Bool} {fuel : Nat} {cs : List Value} {x : DataW H × List MemPlace} (h : DataW.trod enc Tryz.prog w b s hd fuel 40 cs = some x) (hw : Light x.1 40) :
    ∃ (a : Option Addr) (c : Nat) (ks : List ByteArray), cs = [.slice a ks.length c] ∧ RowC w (.slice a ks.length c) 1 ks.length (strs ks) ∧ ks.length ≤ 140737488355328 ∧ ∀ k ∈ ks, k.size ≤ 140737488355328 := by
  rcases DataW.trod_slice Tryz.underlying40 h with ⟨rfl, _⟩ | ⟨a, len, cap, elems, rest, n, _, rfl, rfl, _, hlc, _, hel, hget, _, _⟩
  · exact ⟨none, 0, [], rfl, ⟨none, 0, rfl, Nat.le_refl _, rfl, fun i v hv => by simp [strs] at hv⟩, by simp, (fun k hk => by cases hk)⟩
  · rw [cells_string1] at hget
    have hrow := rows_of (w := w) (base := b) (sz := 1) (n := len) (a := a) (R := fun i cs => ∃ q : ByteArray, cs = [.string q] ∧ (elems[i]?).map (·.1) = some (.lit (.string q.data.toList))) (by decide) (fun i hi => by
      have h1 := hget i hi
      obtain ⟨y, hy⟩ : ∃ y, elems[i]? = some y := ⟨_, List.getElem?_eq_getElem (by omega)⟩
      rw [hy] at h1
      simp only [Option.bind_eq_some_iff] at h1
      obtain ⟨cs, hc, ht⟩ := h1
      obtain ⟨q, rfl, rfl, _⟩ := DataW.trod_string Tryz.underlying9 ht
      exact ⟨_, hc, q, rfl, by rw [hy]; rfl⟩)
    have hwt : ∀ d ∈ elems.map (·.1), ∀ n ∈ d.weights Tryz.prog 9, n ≤ 140737488355328 := fun d hd n hn => hw n (by
      simp only [DataW.weights, Tryz.underlying40, List.mem_cons, List.mem_append]
      exact .inr (.inl (weights_all hd hn)))
    have hln : len ≤ 140737488355328 := by
      have := hw ((elems.length + rest.length) * 16) (by simp only [DataW.weights, Tryz.underlying40, List.mem_cons, List.length_map, bytes_string16]; first | exact .inl rfl | exact .inl trivial)
      omega
    have key : ∀ k, k ≤ len → ∃ ks : List ByteArray, ks.length = k ∧ (∀ k ∈ ks, k.size ≤ 140737488355328) ∧ ∀ i v, (strs ks)[i]? = some v → a = ⟨a.block, a.off, none⟩ ∧ w.cell? ⟨a.block, a.off + i, none⟩ = some v := by
      intro k
      induction k with
      | zero => exact fun _ => ⟨[], rfl, (fun k hk => by cases hk), (fun i v hv => by simp [strs] at hv)⟩
      | succ k ih =>
        intro hk
        obtain ⟨ks, h1, h2, h3⟩ := ih (by omega)
        obtain ⟨cs, ⟨q, rfl, hq⟩, _, hc⟩ := hrow k (by omega)
        simp only [Option.map_eq_some_iff] at hq
        obtain ⟨y, hy, hy1⟩ := hq
        have hqs : q.size ≤ 140737488355328 := hwt y.1 (List.mem_map.2 ⟨y, List.mem_of_getElem? hy, rfl⟩) _ (by rw [hy1]; first | (simp [DataW.weights]; done) | (simp [DataW.weights]; rfl))
        refine ⟨ks ++ [q], by simp [h1], fun k hk => ?_, fun i v hv => ?_⟩
        · rcases List.mem_append.1 hk with hk | hk
          · exact h2 k hk
          · rw [List.mem_singleton.1 hk]; exact hqs
        · unfold strs at hv
          rw [List.map_append] at hv
          by_cases hi : i < (ks.map Value.string).length
          · rw [List.getElem?_append_left hi] at hv
            exact h3 i v hv
          · rw [List.getElem?_append_right (by omega)] at hv
            rw [List.length_map, h1] at hi hv
            have h0 : i - k < 1 := by have := (List.getElem?_eq_some_iff.1 hv).1; simpa using this
            have hc := hc (i - k) v hv
            rwa [show k * 1 + (i - k) = i from by omega] at hc
    obtain ⟨ks, rfl, h2, h3⟩ := key len (Nat.le_refl _)
    refine ⟨some a, cap, ks, rfl, ⟨some a, cap, rfl, hlc, by simp [strs], fun i v hv => ?_⟩, hln, h2⟩
    obtain ⟨e1, e2⟩ := h3 i v hv
    exact ⟨a.block, a.off, by rw [← e1], e2⟩

set_option maxRecDepth 100000 in
theorem open_step {H : Type} {enc : TypeId × Value → H} {w : World} {b : Nat} {s : Nat → Bool} {hd : Bool} {fuel : Nat} {cs : List Value} {x : DataW H × List MemPlace} (h : DataW.trod enc Tryz.prog w b s hd fuel 48 cs = some x) (hw : Light x.1 48) :
    ∃ (t : StepI) (sk : Value), cs = stepI t sk ∧ RowC w sk 1 t.keys.length (strs t.keys) ∧ StepW t := by
  obtain ⟨xs, m, _, rfl, hl, hxl, hf⟩ := DataW.trod_struct Tryz.underlying48 h
  rw [cells_step6] at hl
  have hxl' : xs.length = 6 := hxl
  obtain ⟨x0, x1, x2, x3, x4, x5, rfl⟩ : ∃ x0 x1 x2 x3 x4 x5, xs = [x0, x1, x2, x3, x4, x5] := by
    match xs, hxl' with
    | [a, b, c, d, e, f], _ => exact ⟨a, b, c, d, e, f, rfl⟩
  have f0 : DataW.trod enc Tryz.prog w b s hd m 46 ((cs.drop 0).take (Tryz.prog.cellsOf 46)) = some x0 := hf 0 _ rfl
  have f1 : DataW.trod enc Tryz.prog w b s hd m 4 ((cs.drop 1).take (Tryz.prog.cellsOf 4)) = some x1 := hf 1 _ rfl
  have f2 : DataW.trod enc Tryz.prog w b s hd m 38 ((cs.drop 2).take (Tryz.prog.cellsOf 38)) = some x2 := hf 2 _ rfl
  have f3 : DataW.trod enc Tryz.prog w b s hd m 9 ((cs.drop 3).take (Tryz.prog.cellsOf 9)) = some x3 := hf 3 _ rfl
  have f4 : DataW.trod enc Tryz.prog w b s hd m 3 ((cs.drop 4).take (Tryz.prog.cellsOf 3)) = some x4 := hf 4 _ rfl
  have f5 : DataW.trod enc Tryz.prog w b s hd m 40 ((cs.drop 5).take (Tryz.prog.cellsOf 40)) = some x5 := hf 5 _ rfl
  rw [cells_sort1] at f0
  rw [cells_bool1] at f1
  rw [cells_u641] at f2
  rw [cells_string1] at f3
  rw [cells_int1] at f4
  rw [cells_strs1] at f5
  have hwe : DataW.weights Tryz.prog 48 (DataW.agg [x0.1, x1.1, x2.1, x3.1, x4.1, x5.1]) = DataW.weightsEach Tryz.prog [46, 4, 38, 9, 3, 40] [x0.1, x1.1, x2.1, x3.1, x4.1, x5.1] := by
    unfold DataW.weights
    rw [Tryz.underlying48]
    rfl
  have hws : ∀ n, n ∈ DataW.weights Tryz.prog 9 x3.1 ∨ n ∈ DataW.weights Tryz.prog 40 x5.1 → n ≤ 140737488355328 := fun n hn => hw n (by
    show n ∈ DataW.weights Tryz.prog 48 (DataW.agg [x0.1, x1.1, x2.1, x3.1, x4.1, x5.1])
    rw [hwe]
    simp only [DataW.weightsEach, List.mem_append]
    rcases hn with hn | hn
    · exact .inr (.inr (.inr (.inl hn)))
    · exact .inr (.inr (.inr (.inr (.inr (.inl hn))))))
  obtain ⟨so, h0, _, _⟩ := DataW.trod_int Tryz.underlying46 f0
  obtain ⟨fl, h1, _⟩ := DataW.trod_bool Tryz.underlying4 f1
  obtain ⟨bi, h2, _, hbw⟩ := DataW.trod_int Tryz.underlying38 f2
  obtain ⟨te, h3, e3, _⟩ := DataW.trod_string Tryz.underlying9 f3
  obtain ⟨co, h4, _, hcw⟩ := DataW.trod_int Tryz.underlying3 f4
  obtain ⟨a, c, ks, h5, hR, hkl, hks⟩ := open_strs f5 (fun n hn => hws n (.inr hn))
  have hb := bounds_u64 hbw
  have hc := bounds_i64 hcw
  have ht : te.size ≤ 140737488355328 := hws te.size (.inl (by rw [e3]; first | (simp [DataW.weights]; done) | (simp [DataW.weights]; rfl)))
  refine ⟨⟨so, fl, bi.toNat, te, co, ks⟩, .slice a ks.length c, ?_, hR, ⟨by show bi.toNat < _; omega, ht, hkl, hks, hc⟩⟩
  have g : ∀ i v, (cs.drop i).take 1 = [v] → cs[i]? = some v := fun i v h => by
    have := congrArg (fun l => l[0]?) h
    simpa [List.getElem?_take, List.getElem?_drop] using this
  have g0 := g 0 _ h0
  have g1 := g 1 _ h1
  have g2 := g 2 _ h2
  have g3 := g 3 _ h3
  have g4 := g 4 _ h4
  have g5 := g 5 _ h5
  obtain ⟨c0, c1, c2, c3, c4, c5, rfl⟩ := six_of hl
  obtain rfl : c0 = _ := Option.some.inj g0
  obtain rfl : c1 = _ := Option.some.inj g1
  obtain rfl : c2 = _ := Option.some.inj g2
  obtain rfl : c3 = _ := Option.some.inj g3
  obtain rfl : c4 = _ := Option.some.inj g4
  obtain rfl : c5 = _ := Option.some.inj g5
  show _ = [_, _, _, _, _, _]
  rw [show (((bi.toNat : Nat) : Int)) = bi from by omega]

theorem open_steps {H : Type} {enc : TypeId × Value → H} {w : World} {b : Nat} {s : Nat → Bool} {hd : Bool} {fuel : Nat} {cs : List Value} {x : DataW H × List MemPlace} (h : DataW.trod enc Tryz.prog w b s hd fuel 44 cs = some x) (hw : Light x.1 44) :
    ∃ (a : Option Addr) (c : Nat) (l : List StepI) (xs : List Value), cs = [.slice a l.length c] ∧ RowC w (.slice a l.length c) 6 l.length xs ∧ StepsR w l xs ∧ (∀ s ∈ l, StepW s) ∧ l.length ≤ 140737488355328 := by
  rcases DataW.trod_slice Tryz.underlying44 h with ⟨rfl, _⟩ | ⟨a, len, cap, elems, rest, n, _, rfl, rfl, _, hlc, _, hel, hget, _, _⟩
  · exact ⟨none, 0, [], [], rfl, ⟨none, 0, rfl, Nat.le_refl _, rfl, fun i v hv => by simp at hv⟩, by simp [StepsR], (fun k hk => by cases hk), by simp⟩
  · rw [cells_step6] at hget
    have hwt : ∀ d ∈ elems.map (·.1), ∀ n ∈ d.weights Tryz.prog 48, n ≤ 140737488355328 := fun d hd n hn => hw n (by
      simp only [DataW.weights, Tryz.underlying44, List.mem_cons, List.mem_append]
      exact .inr (.inl (weights_all hd hn)))
    have hrow := rows_of (w := w) (base := b) (sz := 6) (n := len) (a := a) (R := fun i cs => ∃ (t : StepI) (sk : Value), cs = stepI t sk ∧ RowC w sk 1 t.keys.length (strs t.keys) ∧ StepW t) (by decide) (fun i hi => by
      have h1 := hget i hi
      obtain ⟨y, hy⟩ : ∃ y, elems[i]? = some y := ⟨_, List.getElem?_eq_getElem (by omega)⟩
      rw [hy] at h1
      simp only [Option.bind_eq_some_iff] at h1
      obtain ⟨cs, hc, ht⟩ := h1
      exact ⟨_, hc, open_step ht (fun n hn => hwt y.1 (List.mem_map.2 ⟨y, List.mem_of_getElem? hy, rfl⟩) n hn)⟩)
    have hln : len ≤ 140737488355328 := by
      have := hw ((elems.length + rest.length) * 72) (by simp only [DataW.weights, Tryz.underlying44, List.mem_cons, List.length_map, bytes_step72]; first | exact .inl rfl | exact .inl trivial)
      omega
    have key : ∀ k, k ≤ len → ∃ (l : List StepI) (xs : List Value), l.length = k ∧ xs.length = k * 6 ∧ StepsR w l xs ∧ (∀ s ∈ l, StepW s) ∧ ∀ i v, xs[i]? = some v → a = ⟨a.block, a.off, none⟩ ∧ w.cell? ⟨a.block, a.off + i, none⟩ = some v := by
      intro k
      induction k with
      | zero => exact fun _ => ⟨[], [], rfl, rfl, by simp [StepsR], (fun k hk => by cases hk), (fun i v hv => by simp at hv)⟩
      | succ k ih =>
        intro hk
        obtain ⟨l, xs, h1, h2, h3, h4, h5⟩ := ih (by omega)
        obtain ⟨cs, ⟨t, sk, rfl, hR, hW⟩, _, hc⟩ := hrow k (by omega)
        refine ⟨l ++ [t], xs ++ stepI t sk, by simp [h1], by rw [List.length_append, h2]; show _ + 6 = _; omega, h3.append ⟨sk, [], by simp, hR, by simp [StepsR]⟩, fun s hs => ?_, fun i v hv => ?_⟩
        · rcases List.mem_append.1 hs with hs | hs
          · exact h4 s hs
          · rw [List.mem_singleton.1 hs]; exact hW
        · by_cases hi : i < xs.length
          · rw [List.getElem?_append_left hi] at hv
            exact h5 i v hv
          · rw [List.getElem?_append_right (by omega), h2] at hv
            have hc := hc (i - k * 6) v hv
            rwa [show k * 6 + (i - k * 6) = i from by omega] at hc
    obtain ⟨l, xs, rfl, h2, h3, h4, h5⟩ := key len (Nat.le_refl _)
    refine ⟨some a, cap, l, xs, rfl, ⟨some a, cap, rfl, hlc, h2, fun i v hv => ?_⟩, h3, h4, hln⟩
    obtain ⟨e1, e2⟩ := h5 i v hv
    exact ⟨a.block, a.off, by rw [← e1], e2⟩
end Go.Proofs.YtfdhgakalojahaaGreatDoor

/- LAWS: a slice of one-cell elements that the call itself grows by one element. LAWS: more of slices of the call's own. -/
import Derived.Deep.AppendLies
import Derived.WalkSpells
import Derived.Test.YtfdhgakalojahaaGreatDoorM03
import Derived.Test.YtfdhgakalojahaaGreatDoorM02
set_option linter.unusedSimpArgs false
set_option linter.unusedVariables false
set_option linter.unnecessarySimpa false
set_option linter.unusedSectionVars false
namespace Go.Proofs.YtfdhgakalojahaaGreatDoor
open Go Go.RowKit

/-- sv is nil, or stands at the head of a row of its own, and its elements are xs -/
def Lst (w : World) (sv : Value) (e : TypeId) (xs : List Value) : Prop := w.ownsRow 0 e 1 sv xs.length xs

theorem Lst.nil (w : World) (e : TypeId) : Lst w (.slice none 0 0) e [] := World.ownsRow_nil w 0 e 1

theorem Lst.kept {w w' : World} {sv : Value} {e : TypeId} {xs : List Value} {bs : List Nat} (h : Lst w sv e xs) (hc : Chg w w' bs) (hn : ∀ g, sv.ownBlock = some g → g ∉ bs) : Lst w' sv e xs := by
  obtain ⟨h1, h2⟩ := h
  refine ⟨h1, ?_⟩
  rcases h2 with h2 | ⟨g, cap, cur, hv, hb, hg, r⟩
  · exact .inl h2
  · refine .inr ⟨g, cap, cur, hv, hb, ?_, r⟩
    rw [hc.block g (Array.getElem?_eq_some_iff.1 hg).1 (hn g (by subst hv; rfl))]
    exact hg

theorem Lst.form {w : World} {sv : Value} {e : TypeId} {xs : List Value} (h : Lst w sv e xs) : ∃ a cap, sv = .slice a xs.length cap ∧ (xs ≠ [] → ∃ g, a = some ⟨g, 0, none⟩) := by
  rcases h.2 with ⟨h1, h2⟩ | ⟨g, cap, cur, hv, _⟩
  · exact ⟨none, 0, by rw [h1, h2], fun hx => absurd (List.eq_nil_of_length_eq_zero h2) hx⟩
  · exact ⟨_, cap, hv, fun _ => ⟨g, rfl⟩⟩

theorem Lst.cell {w : World} {sv : Value} {e : TypeId} {xs : List Value} (h : Lst w sv e xs) {g : Nat} (hg : sv.ownBlock = some g) (i : Nat) (v : Value) (hv : xs[i]? = some v) : w.cell? ⟨g, i, none⟩ = some v := by
  have := World.ownsRow.cells h hg i v hv
  rwa [show (⟨g, 0, none⟩ : Addr).add i = ⟨g, i, none⟩ from by unfold Addr.add; split <;> simp_all] at this

theorem Lst.lt {w : World} {sv : Value} {e : TypeId} {xs : List Value} (h : Lst w sv e xs) {g : Nat} (hg : sv.ownBlock = some g) : g < w.heap.size := (World.ownsRow.lt h g hg).2

/-- 'append(s, x)' of one element that lies in a block of one cell. -/
theorem wpList_append1 {P : Program} {ops : Array Oper} {rest : List Oper} {o : Oper} {a : Act} {Q : Exit → Act → World → Prop} {w : World} (hgd : o.guard = none) (s x : Operand) (t : TypeId)
    (ho : o.op = .call { callee := .builtin .append, args := #[s, x], argTypes := #[t, t] })
    (e : TypeId) (z : Value) (bytes : Nat) (ht : P.underlying t = some (.slice e)) (hinfo : (P.info? e).map (fun i => (i.zero, i.size, i.bytes)) = some (some z, 1, bytes)) (hzs : z.cells.size = 1)
    (sv : Value) (xs : List Value) (hs : a.eval s = sv) (hown : Lst w sv e xs)
    (B : Nat) (u : Value) (hx : a.eval x = .slice (some ⟨B, 0, none⟩) 1 1) (hu : w.cell? ⟨B, 0, none⟩ = some u) (hu1 : u.oneCell' = true) (hn : (xs.length + 1) * bytes ≤ 140737488355328) (hn' : xs.length ≤ 140737488355328)
    (h : ∀ g cap w', Lst w' (.slice (some ⟨g, 0, none⟩) (xs.length + 1) cap) e (xs ++ [u]) → Chg w w' sv.ownBlock.toList → (sv.ownBlock = some g ∨ g = w.heap.size) →
      wpList P ops Q rest (a.put o.dst (.slice (some ⟨g, 0, none⟩) (xs.length + 1) cap)) w') : wpList P ops Q (o :: rest) a w := by
  obtain ⟨i, hi, hz, hsz, hby⟩ := info_parts hinfo
  have hnews : ∀ j v, [u][j]? = some v → w.cell? ((⟨B, 0, none⟩ : Addr).add j) = some v := by
    intro j v hv
    match j, hv with
    | 0, hv => simp at hv; subst hv; exact hu
    | j + 1, hv => simp at hv
  obtain ⟨g, cap, w', hr, h1, h2, h3, h4⟩ := run_append_lies (P := P) w t o.type 0 e i z 1 bytes ht hi hz hsz hby hzs (by decide) sv xs.length xs hown ⟨B, 0, none⟩ 1 1 [u] rfl hnews (by simpa using hu1) (by decide) (by unfold maxLen; omega) hn (Nat.zero_le _) _ rfl
  refine wpList_plain hgd fun K hK => ?_
  unfold Oper.wp execOp
  simp only [ho, resolve, invoke, builtin, Sem.run_bind, Sem.run_pure, Result.andThen_ok, List.map_toArray, List.map_cons, List.map_nil, hs, hx, hr]
  exact hK _ _ (h g cap w' (by unfold Lst; rw [List.length_append]; exact h1) ⟨h2.os, h2.tape, h2.output, h2.size, run_drawn _ _ _ _ hr, fun k hk hn => h2.block k hk fun he => hn (by rw [← he]; simp)⟩ h3)

/-- The same at a step of a region that draws its order. -/
theorem step_append1 {P : Program} {ops : Array Oper} {o : Oper} {a : Act} {K : Act → World → Prop} {Q : Exit → Act → World → Prop} {E : Prop} {w : World} (hgd : o.guard = none) (s x : Operand) (t : TypeId)
    (ho : o.op = .call { callee := .builtin .append, args := #[s, x], argTypes := #[t, t] })
    (e : TypeId) (z : Value) (bytes : Nat) (ht : P.underlying t = some (.slice e)) (hinfo : (P.info? e).map (fun i => (i.zero, i.size, i.bytes)) = some (some z, 1, bytes)) (hzs : z.cells.size = 1)
    (sv : Value) (xs : List Value) (hs : a.eval s = sv) (hown : Lst w sv e xs)
    (B : Nat) (u : Value) (hx : a.eval x = .slice (some ⟨B, 0, none⟩) 1 1) (hu : w.cell? ⟨B, 0, none⟩ = some u) (hu1 : u.oneCell' = true) (hn : (xs.length + 1) * bytes ≤ 140737488355328) (hn' : xs.length ≤ 140737488355328)
    (h : ∀ g cap w', Lst w' (.slice (some ⟨g, 0, none⟩) (xs.length + 1) cap) e (xs ++ [u]) → Chg w w' sv.ownBlock.toList → (sv.ownBlock = some g ∨ g = w.heap.size) →
      K (a.put o.dst (.slice (some ⟨g, 0, none⟩) (xs.length + 1) cap)) w') :
    if Region.wanted o (yielded ops a.tmps) = true then Oper.wp P o a w K Q else E := by
  obtain ⟨i, hi, hz, hsz, hby⟩ := info_parts hinfo
  have hnews : ∀ j v, [u][j]? = some v → w.cell? ((⟨B, 0, none⟩ : Addr).add j) = some v := by
    intro j v hv
    match j, hv with
    | 0, hv => simp at hv; subst hv; exact hu
    | j + 1, hv => simp at hv
  obtain ⟨g, cap, w', hr, h1, h2, h3, h4⟩ := run_append_lies (P := P) w t o.type 0 e i z 1 bytes ht hi hz hsz hby hzs (by decide) sv xs.length xs hown ⟨B, 0, none⟩ 1 1 [u] rfl hnews (by simpa using hu1) (by decide) (by unfold maxLen; omega) hn (Nat.zero_le _) _ rfl
  have hw : Region.wanted o (yielded ops a.tmps) = true := by simp [Region.wanted, hgd]
  rw [if_pos hw]
  unfold Oper.wp execOp
  simp only [ho, resolve, invoke, builtin, Sem.run_bind, Sem.run_pure, Result.andThen_ok, List.map_toArray, List.map_cons, List.map_nil, hs, hx, hr]
  exact (h g cap w' (by unfold Lst; rw [List.length_append]; exact h1) ⟨h2.os, h2.tape, h2.output, h2.size, run_drawn _ _ _ _ hr, fun k hk hn => h2.block k hk fun he => hn (by rw [← he]; simp)⟩ h3)

theorem Lst.capLe {w : World} {a : Option Addr} {n cap : Nat} {e : TypeId} {vs : List Value} (h : Lst w (.slice a n cap) e vs) : n = vs.length ∧ vs.length ≤ cap := by
  rcases h.2 with ⟨h1, h2⟩ | ⟨g, cap', cur, hv, _, _, h3, _⟩
  · injection h1; omega
  · injection hv; omega

theorem Lst.pop {w : World} {a : Option Addr} {cap : Nat} {e : TypeId} {vs : List Value} (h : Lst w (.slice a vs.length cap) e vs) (k : Nat) (hk : k ≤ vs.length) : Lst w (.slice a k cap) e (vs.take k) := by
  have hl : (vs.take k).length = k := by rw [List.length_take]; omega
  refine ⟨by simp, ?_⟩
  rcases h.2 with ⟨h1, h2⟩ | ⟨g, cap', cur, hv, hb, hg, h3, h4, h5, h6⟩
  · injection h1 with h1 h2' h3'
    subst h1; subst h3'
    have : k = 0 := by omega
    subst this
    exact .inl ⟨rfl, by simp⟩
  · injection hv with hv hv2 hv3
    subst hv; subst hv3
    refine .inr ⟨g, cap, cur, by rw [hl], hb, hg, by omega, h4, h5, ?_⟩
    rw [hl, Nat.mul_one, ← h6, List.take_take]
    congr 1
    omega
end Go.Proofs.YtfdhgakalojahaaGreatDoor

namespace Go.Proofs.YtfdhgakalojahaaGreatDoor
open Go Go.RowKit

/-- a slice literal -/
theorem Lst.lit (w : World) (cs : List Value) (e : TypeId) (n : Nat) (hn : cs.length = n) (hm : n ≤ maxLen) : Lst (w.alloc (.cells cs.toArray e)) (.slice (some ⟨w.heap.size, 0, none⟩) n n) e cs := by
  subst hn
  exact World.ownsRow_lit w cs.toArray cs.length (Nat.zero_le _) hm (by simp)

theorem run_append_void {P : Program} (w : World) (t ty e : TypeId) (i : TypeInfo) (ht : P.underlying t = some (.slice e)) (hi : P.info? e = some i) (a : Option Addr) (n cap : Nat) (hc : n ≤ cap) (x : Option Addr) (c : Nat) :
    (Builtin.append_ #[t, t] ty #[.slice a n cap, .slice x 0 c]).run P w = .ok (.slice a n cap) w := by
  cases a with
  | none => cases x <;> simp [Builtin.append_, run_underlying ht, sizeOf, typeInfo, hi, Builtin.lenOf, Builtin.firstCells, hc] <;> rfl
  | some a =>
    cases x <;> simp [Builtin.append_, run_underlying ht, sizeOf, typeInfo, hi, Builtin.lenOf, Builtin.firstCells, hc] <;> rfl

theorem wpList_append_void {P : Program} {ops : Array Oper} {rest : List Oper} {o : Oper} {a : Act} {Q : Exit → Act → World → Prop} {w : World} (hgd : o.guard = none) (s x : Operand) (t : TypeId)
    (ho : o.op = .call { callee := .builtin .append, args := #[s, x], argTypes := #[t, t] })
    (e : TypeId) (i : TypeInfo) (ht : P.underlying t = some (.slice e)) (hi : P.info? e = some i) (b : Option Addr) (n cap : Nat) (hc : n ≤ cap) (hs : a.eval s = .slice b n cap) (y : Option Addr) (c : Nat) (hx : a.eval x = .slice y 0 c)
    (h : wpList P ops Q rest (a.put o.dst (.slice b n cap)) w) : wpList P ops Q (o :: rest) a w := by
  have hr := run_append_void (P := P) w t o.type e i ht hi b n cap hc y c
  refine wpList_plain hgd fun K hK => ?_
  unfold Oper.wp execOp
  simp only [ho, resolve, invoke, builtin, Sem.run_bind, Sem.run_pure, Result.andThen_ok, List.map_toArray, List.map_cons, List.map_nil, hs, hx, hr]
  exact hK _ _ h

end Go.Proofs.YtfdhgakalojahaaGreatDoor

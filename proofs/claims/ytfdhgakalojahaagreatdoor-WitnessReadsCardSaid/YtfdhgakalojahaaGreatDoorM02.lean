/- PLAIN: two right texts held against each other by their units of 16 bits; no program in sight. LAWS: whatever runs to its end has not taken draws back. PLAIN: one block of SHA-256, in the walk's own numbers; no program in sight. -/
import Derived.Test.YtfdhgakalojahaaGreatDoorM01
import Derived.WalkKit
set_option linter.unusedSimpArgs false
set_option linter.unusedVariables false
set_option linter.unnecessarySimpa false
set_option linter.unusedSectionVars false
namespace Utf

/-- the units of a character -/
def unitsR (r : Nat) : List Nat := if r < 65536 then [r] else [55296 + (r - 65536) / 1024, 56320 + (r - 65536) % 1024]

/-- the bytes of a character's form -/
inductive Form : List Nat → Nat → Prop
  | one (x : Nat) (h : x < 128) : Form [x] x
  | two (x y : Nat) (h : 194 ≤ x ∧ x ≤ 223 ∧ 128 ≤ y ∧ y ≤ 191) : Form [x, y] (64 * (x - 192) + (y - 128))
  | three (x y z : Nat) (h : 224 ≤ x ∧ x ≤ 239 ∧ 128 ≤ y ∧ y ≤ 191 ∧ (x = 224 → 160 ≤ y) ∧ (x = 237 → y ≤ 159) ∧ 128 ≤ z ∧ z ≤ 191) : Form [x, y, z] (4096 * (x - 224) + 64 * (y - 128) + (z - 128))
  | four (x y z u : Nat) (h : 240 ≤ x ∧ x ≤ 244 ∧ 128 ≤ y ∧ y ≤ 191 ∧ (x = 240 → 144 ≤ y) ∧ (x = 244 → y ≤ 143) ∧ 128 ≤ z ∧ z ≤ 191 ∧ 128 ≤ u ∧ u ≤ 191) :
      Form [x, y, z, u] (262144 * (x - 240) + 4096 * (y - 128) + 64 * (z - 128) + (u - 128))

inductive FormsL : List Nat → List Nat → Prop
  | nil : FormsL [] []
  | cons {e : List Nat} {r : Nat} {t : List Nat} {l : List Nat} (h : Form e r) (k : FormsL t l) : FormsL (e ++ t) (r :: l)

theorem Form.ne {e : List Nat} {r : Nat} (h : Form e r) : e ≠ [] := by cases h <;> simp

theorem lexU1 {a b : Nat} (t u : List Nat) : lex (a :: t) (b :: u) = if a = b then lex t u else if a < b then -1 else 1 := by simp [lex]

theorem units_ne (r : Nat) : ∃ a t, unitsR r = a :: t := by unfold unitsR; split <;> exact ⟨_, _, rfl⟩

theorem cmp1 (x y : Nat) (a b : List Nat) : cmpL (x :: a) (y :: b) = if x = y then cmpL a b else cmpByte x y := by simp [cmpL]

set_option maxHeartbeats 4000000 in
theorem form_cmp {e f : List Nat} {r s : Nat} (he : Form e r) (hf : Form f s) : (e = f ∧ r = s) ∨ ∀ t u t' u', cmpL (e ++ t) (f ++ u) = lex (unitsR r ++ t') (unitsR s ++ u') := by
  cases he with
  | one _ h =>
    cases hf with
    | one _ h' =>
      by_cases g : r = s
      · left; subst g; exact ⟨rfl, rfl⟩
      · right; intro t u t' u'
        simp only [unitsR, if_pos (show r < 65536 by omega), if_pos (show s < 65536 by omega), List.cons_append, List.nil_append, cmp1, lexU1, if_neg g, cmpByte]
        repeat' split
        all_goals omega
    | two x' y' h' =>
      right; intro t u t' u'
      simp only [unitsR, if_pos (show r < 65536 by omega), if_pos (show 64 * (x' - 192) + (y' - 128) < 65536 by omega), List.cons_append, List.nil_append, cmp1, lexU1, cmpByte]
      repeat' split
      all_goals omega
    | three x' y' z' h' =>
      right; intro t u t' u'
      simp only [unitsR, if_pos (show r < 65536 by omega), if_pos (show 4096 * (x' - 224) + 64 * (y' - 128) + (z' - 128) < 65536 by omega), List.cons_append, List.nil_append, cmp1, lexU1, cmpByte]
      repeat' split
      all_goals omega
    | four x' y' z' u' h' =>
      right; intro t u t' u''
      simp only [unitsR, if_pos (show r < 65536 by omega), if_neg (show ¬ 262144 * (x' - 240) + 4096 * (y' - 128) + 64 * (z' - 128) + (u' - 128) < 65536 by omega), List.cons_append, List.nil_append, cmp1, lexU1, cmpByte]
      repeat' split
      all_goals omega
  | two x y h =>
    cases hf with
    | one _ h' =>
      right; intro t u t' u'
      simp only [unitsR, if_pos (show s < 65536 by omega), if_pos (show 64 * (x - 192) + (y - 128) < 65536 by omega), List.cons_append, List.nil_append, cmp1, lexU1, cmpByte]
      repeat' split
      all_goals omega
    | two x' y' h' =>
      by_cases g : x = x' ∧ y = y'
      · left; obtain ⟨rfl, rfl⟩ := g; exact ⟨rfl, rfl⟩
      · right; intro t u t' u'
        simp only [unitsR, if_pos (show 64 * (x' - 192) + (y' - 128) < 65536 by omega), if_pos (show 64 * (x - 192) + (y - 128) < 65536 by omega), List.cons_append, List.nil_append, cmp1, lexU1, cmpByte]
        repeat' split
        all_goals omega
    | three x' y' z' h' =>
      right; intro t u t' u'
      simp only [unitsR, if_pos (show 64 * (x - 192) + (y - 128) < 65536 by omega), if_pos (show 4096 * (x' - 224) + 64 * (y' - 128) + (z' - 128) < 65536 by omega), List.cons_append, List.nil_append, cmp1, lexU1, cmpByte]
      repeat' split
      all_goals omega
    | four x' y' z' u' h' =>
      right; intro t u t' u''
      simp only [unitsR, if_pos (show 64 * (x - 192) + (y - 128) < 65536 by omega), if_neg (show ¬ 262144 * (x' - 240) + 4096 * (y' - 128) + 64 * (z' - 128) + (u' - 128) < 65536 by omega), List.cons_append, List.nil_append, cmp1, lexU1, cmpByte]
      repeat' split
      all_goals omega
  | three x y z h =>
    cases hf with
    | one _ h' =>
      right; intro t u t' u'
      simp only [unitsR, if_pos (show s < 65536 by omega), if_pos (show 4096 * (x - 224) + 64 * (y - 128) + (z - 128) < 65536 by omega), List.cons_append, List.nil_append, cmp1, lexU1, cmpByte]
      repeat' split
      all_goals omega
    | two x' y' h' =>
      right; intro t u t' u'
      simp only [unitsR, if_pos (show 64 * (x' - 192) + (y' - 128) < 65536 by omega), if_pos (show 4096 * (x - 224) + 64 * (y - 128) + (z - 128) < 65536 by omega), List.cons_append, List.nil_append, cmp1, lexU1, cmpByte]
      repeat' split
      all_goals omega
    | three x' y' z' h' =>
      by_cases g : x = x' ∧ y = y' ∧ z = z'
      · left; obtain ⟨rfl, rfl, rfl⟩ := g; exact ⟨rfl, rfl⟩
      · right; intro t u t' u'
        simp only [unitsR, if_pos (show 4096 * (x' - 224) + 64 * (y' - 128) + (z' - 128) < 65536 by omega), if_pos (show 4096 * (x - 224) + 64 * (y - 128) + (z - 128) < 65536 by omega), List.cons_append, List.nil_append, cmp1, lexU1, cmpByte]
        repeat' split
        all_goals omega
    | four x' y' z' u' h' =>
      right; intro t u t' u''
      simp only [unitsR, if_pos (show 4096 * (x - 224) + 64 * (y - 128) + (z - 128) < 65536 by omega), if_neg (show ¬ 262144 * (x' - 240) + 4096 * (y' - 128) + 64 * (z' - 128) + (u' - 128) < 65536 by omega), List.cons_append, List.nil_append, cmp1, lexU1, cmpByte]
      repeat' split
      all_goals omega
  | four x y z v h =>
    cases hf with
    | one _ h' =>
      right; intro t u t' u'
      simp only [unitsR, if_pos (show s < 65536 by omega), if_neg (show ¬ 262144 * (x - 240) + 4096 * (y - 128) + 64 * (z - 128) + (v - 128) < 65536 by omega), List.cons_append, List.nil_append, cmp1, lexU1, cmpByte]
      repeat' split
      all_goals omega
    | two x' y' h' =>
      right; intro t u t' u'
      simp only [unitsR, if_pos (show 64 * (x' - 192) + (y' - 128) < 65536 by omega), if_neg (show ¬ 262144 * (x - 240) + 4096 * (y - 128) + 64 * (z - 128) + (v - 128) < 65536 by omega), List.cons_append, List.nil_append, cmp1, lexU1, cmpByte]
      repeat' split
      all_goals omega
    | three x' y' z' h' =>
      right; intro t u t' u'
      simp only [unitsR, if_pos (show 4096 * (x' - 224) + 64 * (y' - 128) + (z' - 128) < 65536 by omega), if_neg (show ¬ 262144 * (x - 240) + 4096 * (y - 128) + 64 * (z - 128) + (v - 128) < 65536 by omega), List.cons_append, List.nil_append, cmp1, lexU1, cmpByte]
      repeat' split
      all_goals omega
    | four x' y' z' v' h' =>
      by_cases g : x = x' ∧ y = y' ∧ z = z' ∧ v = v'
      · left; obtain ⟨rfl, rfl, rfl, rfl⟩ := g; exact ⟨rfl, rfl⟩
      · right; intro t u t' u'
        simp only [unitsR, if_neg (show ¬ 262144 * (x' - 240) + 4096 * (y' - 128) + 64 * (z' - 128) + (v' - 128) < 65536 by omega), if_neg (show ¬ 262144 * (x - 240) + 4096 * (y - 128) + 64 * (z - 128) + (v - 128) < 65536 by omega), List.cons_append, List.nil_append, cmp1, lexU1, cmpByte]
        repeat' split
        all_goals omega

theorem cmpL_same (e t u : List Nat) : cmpL (e ++ t) (e ++ u) = cmpL t u := by
  induction e with
  | nil => rfl
  | cons x e ih => simp [cmpL, ih]
theorem lex_same (e t u : List Nat) : lex (e ++ t) (e ++ u) = lex t u := by
  induction e with
  | nil => rfl
  | cons x e ih => simp [lex, ih]

theorem forms_cmp : ∀ {a b l m : List Nat}, FormsL a l → FormsL b m → cmpL a b = lex (l.flatMap unitsR) (m.flatMap unitsR)
  | _, _, _, _, .nil, .nil => rfl
  | _, _, _, _, .nil, .cons (e := e) (r := r) h k => by
    obtain ⟨x, t, rfl⟩ : ∃ x t, e = x :: t := by cases e with | nil => exact absurd rfl h.ne | cons x t => exact ⟨x, t, rfl⟩
    obtain ⟨y, u, hy⟩ := units_ne r
    simp [cmpL, lex, hy]
  | _, _, _, _, .cons (e := e) (r := r) h k, .nil => by
    obtain ⟨x, t, rfl⟩ : ∃ x t, e = x :: t := by cases e with | nil => exact absurd rfl h.ne | cons x t => exact ⟨x, t, rfl⟩
    obtain ⟨y, u, hy⟩ := units_ne r
    simp [cmpL, lex, hy]
  | _, _, _, _, .cons h k, .cons h' k' => by
    rcases form_cmp h h' with ⟨rfl, rfl⟩ | g
    · rw [List.flatMap_cons, List.flatMap_cons, cmpL_same, lex_same]
      exact forms_cmp k k'
    · rw [List.flatMap_cons, List.flatMap_cons]
      exact g _ _ _ _

/-- the form at a byte -/
theorem okB_form {s : ByteArray} {p : Nat} (hp : p < s.size) (h : okB s p = true) : ∃ r : Nat, runeAt s p = r ∧ r < 1114112 ∧ Form (((bytesL s).drop p).take (wideAt s p)) r := by
  have hw := (okB_iff hp).1 h
  obtain ⟨h0, h1⟩ := hw
  have h4 := wideN_le (byteAt s p)
  rw [show wideN (byteAt s p) = wideAt s p from rfl] at h4
  obtain ⟨n, hn⟩ : ∃ n, wideAt s p = n := ⟨_, rfl⟩
  have hb : wideN (byteAt s p) = n := hn
  unfold runeAt
  rw [hn] at h0 h1 h4 ⊢
  have hlt := byteAt_lt s p
  have hcase : n = 1 ∨ n = 2 ∨ n = 3 ∨ n = 4 := by omega
  rcases hcase with rfl | rfl | rfl | rfl
  · have hc : byteAt s p < 128 := by unfold wideN at hb; repeat' split at hb
                                     all_goals omega
    refine ⟨byteAt s p, ?_, by omega, ?_⟩
    · show (byteAt s p : Int) - offN (wideAt s p) = _; rw [hn]; simp [offN]
    · rw [bytesL_drop hp]; exact .one _ hc
  · have hc : 194 ≤ byteAt s p ∧ byteAt s p ≤ 223 := by unfold wideN at hb; repeat' split at hb
                                                        all_goals omega
    obtain ⟨a1, a2⟩ := h1 1 (by omega) (by omega)
    rw [mayB_one] at a2
    have a3 := secondB_cont a2
    refine ⟨64 * (byteAt s p - 192) + (byteAt s (p + 1) - 128), ?_, by omega, ?_⟩
    · show 64 * ((byteAt s p : Int) - offN (wideAt s p)) + byteAt s (p + 1) - 128 = _; rw [hn]; simp [offN]; omega
    · rw [bytesL_drop hp, bytesL_drop a1]; exact .two _ _ ⟨hc.1, hc.2, a3.1, a3.2⟩
  · have hc : 224 ≤ byteAt s p ∧ byteAt s p ≤ 239 := by unfold wideN at hb; repeat' split at hb
                                                        all_goals omega
    obtain ⟨a1, a2⟩ := h1 1 (by omega) (by omega)
    rw [mayB_one] at a2
    have a3 := secondB_cont a2
    obtain ⟨b1, b2⟩ := h1 2 (by omega) (by omega)
    rw [mayB_ne (by omega)] at b2
    have b3 : 128 ≤ byteAt s (p + 2) ∧ byteAt s (p + 2) ≤ 191 := by simpa [contB] using b2
    have a4 : (byteAt s p = 224 → 160 ≤ byteAt s (p + 1)) ∧ (byteAt s p = 237 → byteAt s (p + 1) ≤ 159) := by
      unfold secondB at a2
      repeat' split at a2
      all_goals (try simp at a2)
      all_goals omega
    refine ⟨4096 * (byteAt s p - 224) + 64 * (byteAt s (p + 1) - 128) + (byteAt s (p + 2) - 128), ?_, by omega, ?_⟩
    · show 64 * (64 * ((byteAt s p : Int) - offN (wideAt s p)) + byteAt s (p + 1) - 128) + byteAt s (p + 2) - 128 = _; rw [hn]; simp [offN]; omega
    · rw [bytesL_drop hp, bytesL_drop a1, bytesL_drop b1]; exact .three _ _ _ ⟨hc.1, hc.2, a3.1, a3.2, a4.1, a4.2, b3.1, b3.2⟩
  · have hc : 240 ≤ byteAt s p ∧ byteAt s p ≤ 244 := by unfold wideN at hb; repeat' split at hb
                                                        all_goals omega
    obtain ⟨a1, a2⟩ := h1 1 (by omega) (by omega)
    rw [mayB_one] at a2
    have a3 := secondB_cont a2
    obtain ⟨b1, b2⟩ := h1 2 (by omega) (by omega)
    rw [mayB_ne (by omega)] at b2
    have b3 : 128 ≤ byteAt s (p + 2) ∧ byteAt s (p + 2) ≤ 191 := by simpa [contB] using b2
    obtain ⟨c1, c2⟩ := h1 3 (by omega) (by omega)
    rw [mayB_ne (by omega)] at c2
    have c3 : 128 ≤ byteAt s (p + 3) ∧ byteAt s (p + 3) ≤ 191 := by simpa [contB] using c2
    have a4 : (byteAt s p = 240 → 144 ≤ byteAt s (p + 1)) ∧ (byteAt s p = 244 → byteAt s (p + 1) ≤ 143) := by
      unfold secondB at a2
      repeat' split at a2
      all_goals (try simp at a2)
      all_goals omega
    refine ⟨262144 * (byteAt s p - 240) + 4096 * (byteAt s (p + 1) - 128) + 64 * (byteAt s (p + 2) - 128) + (byteAt s (p + 3) - 128), ?_, by omega, ?_⟩
    · show 64 * (64 * (64 * ((byteAt s p : Int) - offN (wideAt s p)) + byteAt s (p + 1) - 128) + byteAt s (p + 2) - 128) + byteAt s (p + 3) - 128 = _; rw [hn]; simp [offN]; omega
    · rw [bytesL_drop hp, bytesL_drop a1, bytesL_drop b1, bytesL_drop c1]; exact .four _ _ _ _ ⟨hc.1, hc.2, a3.1, a3.2, a4.1, a4.2, b3.1, b3.2, c3.1, c3.2⟩

theorem runesF_forms {s : ByteArray} : ∀ (f p : Nat) (l : List Int), p ≤ s.size → runesF s f p = some l → ∃ m : List Nat, l = m.map Int.ofNat ∧ (∀ r ∈ m, r < 1114112) ∧ FormsL ((bytesL s).drop p) m
  | 0, p, l, hp, h => by
    simp only [runesF] at h
    split at h
    · injection h with h; subst h; exact ⟨[], rfl, by simp, by rw [bytesL_end (by omega)]; exact .nil⟩
    · cases h
  | f + 1, p, l, hp, h => by
    simp only [runesF] at h
    split at h
    · injection h with h; subst h; exact ⟨[], rfl, by simp, by rw [bytesL_end (by omega)]; exact .nil⟩
    · rename_i hlt
      split at h
      · rename_i hok
        obtain ⟨l', h1, h2⟩ := Option.map_eq_some_iff.1 h
        subst h2
        have hle : p + wideAt s p ≤ s.size := by unfold okB at hok; simp at hok; omega
        obtain ⟨m, rfl, hm, hf⟩ := runesF_forms f _ l' hle h1
        obtain ⟨r, hr1, hr2, hr3⟩ := okB_form (by omega) hok
        refine ⟨r :: m, by rw [hr1]; rfl, fun x hx => (List.mem_cons.1 hx).elim (fun e => e ▸ hr2) (fun hx => hm x hx), ?_⟩
        have := FormsL.cons hr3 hf
        rwa [← List.drop_drop, List.take_append_drop] at this
      · cases h

/-- a right text's characters -/
theorem right_runes {s : ByteArray} (h : rightB s = true) : ∃ m : List Nat, runes s = some (m.map Int.ofNat) ∧ (∀ r ∈ m, r < 1114112) ∧ FormsL (bytesL s) m := by
  unfold rightB at h
  obtain ⟨l, hl⟩ := Option.isSome_iff_exists.1 h
  obtain ⟨m, rfl, h2, h3⟩ := runesF_forms s.size 0 l (by omega) hl
  exact ⟨m, hl, h2, by simpa using h3⟩

/-- a right text's units -/
def unitsT (s : ByteArray) : List Nat := ((runes s).getD []).flatMap fun r => unitsR r.toNat

theorem units_cmp {a b : ByteArray} (ha : rightB a = true) (hb : rightB b = true) : lex (unitsT a) (unitsT b) = cmpR a b := by
  obtain ⟨l, h1, _, h2⟩ := right_runes ha
  obtain ⟨m, k1, _, k2⟩ := right_runes hb
  unfold unitsT cmpR
  rw [h1, k1, forms_cmp h2 k2]
  simp [List.flatMap_map]
end Utf

namespace Go.Proofs.YtfdhgakalojahaaGreatDoor
open Go

theorem ask_drawn {α : Type} (s : Ask α) : ∀ w : World, w.drawn ≤ (w.ask s).2.drawn := by
  induction s with
  | done a => intro w; exact Nat.le_refl _
  | ask what range k ih =>
    intro w
    unfold World.ask
    dsimp only
    split
    · exact ih _ w
    · exact Nat.le_trans (Nat.le_succ w.drawn) (ih _ { w with drawn := w.drawn + 1 })

theorem sys_drawn (w : World) (c : Sys) : w.drawn ≤ (w.sys c).2.drawn := by
  have := ask_drawn (Kernel.perform c w.os) w
  unfold World.sys
  split
  · exact Nat.le_refl _
  · rename_i h
    rw [h] at this
    exact this

theorem viewStore_drawn {p : Program} {w w' : World} {at_ : Addr} {u : TypeId} {k : Addr} {v : Value} {b : Bool} {l : List Addr} (h : w.viewStore p at_ u k v b = .ok (w', l)) : w'.drawn = w.drawn := by
  unfold World.viewStore at h
  simp only [bind, Except.bind, pure, Except.pure, throw, throwThe, MonadExceptOf.throw] at h
  repeat' split at h
  all_goals first | (cases h; done) | (injection h with h; injection h with h1 h2; subst h1; rfl) | trace_state

theorem freeze_drawn (w : World) (a : Addr) (n : Nat) : (w.freeze a n).drawn = w.drawn := by
  unfold World.freeze; split <;> rfl

theorem run_drawn {α : Type} {p : Program} (s : Sem α) : ∀ (w : World) (v : α) (w' : World), s.run p w = .ok v w' → w.drawn ≤ w'.drawn := by
  induction s with
  | pure a => intro w v w' h; simp only [Sem.run] at h; injection h with h1 h2; subst h2; exact Nat.le_refl _
  | load m a k ih =>
    intro w v w' h
    simp only [Sem.run] at h
    split at h
    · exact ih _ _ _ _ h
    · split at h
      · exact ih _ _ _ _ h
      · cases h
  | store m a x k ih =>
    intro w v w' h
    cases x <;> simp only [Sem.run] at h <;> try (cases h; done)
    all_goals
      split at h
      · split at h
        · cases h
        · have := ih _ _ _ h; exact this
      · split at h
        · rename_i hf
          have h1 := ih _ _ _ h
          unfold World.farStore at hf
          split at hf
          · split at hf
            · rename_i hv
              injection hf with hf
              have h2 := viewStore_drawn hv
              rw [hf] at h2
              rw [← h2]; exact h1
            · cases hf
          · cases hf
        · cases h
  | new o k ih => intro w v w' h; simp only [Sem.run] at h; have := ih _ _ _ _ h; exact this
  | shape r k ih => intro w v w' h; simp only [Sem.run] at h; exact ih _ _ _ _ h
  | freeze a n k ih => intro w v w' h; simp only [Sem.run] at h; have := ih _ _ _ h; rw [freeze_drawn] at this; exact this
  | frozen a k ih => intro w v w' h; simp only [Sem.run] at h; exact ih _ _ _ _ h
  | getObj r k ih =>
    intro w v w' h
    simp only [Sem.run] at h
    split at h
    · cases h
    · exact ih _ _ _ _ h
    · cases h
  | setObj r o k ih =>
    intro w v w' h
    simp only [Sem.run] at h
    split at h
    · cases h
    · have := ih _ _ _ h; exact this
    · cases h
  | choose q k ih =>
    intro w v w' h
    simp only [Sem.run] at h
    split at h
    · exact ih _ _ _ _ h
    · exact Nat.le_trans (Nat.le_succ _) (ih _ _ _ _ h)
  | sys c k ih => intro w v w' h; simp only [Sem.run] at h; exact Nat.le_trans (sys_drawn w c) (ih _ _ _ _ h)
  | program k ih => intro w v w' h; simp only [Sem.run] at h; exact ih _ _ _ _ h
  | mark m k ih => intro w v w' h; simp only [Sem.run] at h; exact ih _ _ _ h
  | halt h => intro w v w' h; simp only [Sem.run] at h; cases h
end Go.Proofs.YtfdhgakalojahaaGreatDoor

namespace Sha
open Go

def turnI (d m x : Int) : Int := bits BinOp.or IntKind.u32 (x / d) (x * m % 4294967296)
/-- turned right by i bits -/
def tnI (i x : Int) : Int :=
  if i = 7 then turnI 128 33554432 x else if i = 18 then turnI 262144 16384 x else if i = 17 then turnI 131072 32768 x else if i = 19 then turnI 524288 8192 x
  else if i = 6 then turnI 64 67108864 x else if i = 11 then turnI 2048 2097152 x else if i = 25 then turnI 33554432 128 x
  else if i = 2 then turnI 4 1073741824 x else if i = 13 then turnI 8192 524288 x else turnI 4194304 1024 x

theorem tnI_7 (x : Int) : tnI 7 x = turnI 128 33554432 x := by unfold tnI; simp
theorem tnI_18 (x : Int) : tnI 18 x = turnI 262144 16384 x := by unfold tnI; simp
theorem tnI_17 (x : Int) : tnI 17 x = turnI 131072 32768 x := by unfold tnI; simp
theorem tnI_19 (x : Int) : tnI 19 x = turnI 524288 8192 x := by unfold tnI; simp
theorem tnI_6 (x : Int) : tnI 6 x = turnI 64 67108864 x := by unfold tnI; simp
theorem tnI_11 (x : Int) : tnI 11 x = turnI 2048 2097152 x := by unfold tnI; simp
theorem tnI_25 (x : Int) : tnI 25 x = turnI 33554432 128 x := by unfold tnI; simp
theorem tnI_2 (x : Int) : tnI 2 x = turnI 4 1073741824 x := by unfold tnI; simp
theorem tnI_13 (x : Int) : tnI 13 x = turnI 8192 524288 x := by unfold tnI; simp
theorem tnI_22 (x : Int) : tnI 22 x = turnI 4194304 1024 x := by unfold tnI; simp

def xorI (a b : Int) : Int := bits BinOp.xor IntKind.u32 a b
def andI (a b : Int) : Int := bits BinOp.and IntKind.u32 a b
def lowS0 (x : Int) : Int := xorI (xorI (tnI 7 x) (tnI 18 x)) (x / 8)
def lowS1 (y : Int) : Int := xorI (xorI (tnI 17 y) (tnI 19 y)) (y / 1024)
def bigS1 (e : Int) : Int := xorI (xorI (tnI 6 e) (tnI 11 e)) (tnI 25 e)
def bigS0 (a : Int) : Int := xorI (xorI (tnI 2 a) (tnI 13 a)) (tnI 22 a)
def maj (a b c : Int) : Int := xorI (xorI (andI a b) (andI a c)) (andI b c)

def wNew (a x b y : Int) : Int := (a + b + lowS0 x + lowS1 y) % 4294967296

theorem wNew_eq (a x b y : Int) : IntKind.u32.wrap (IntKind.u32.wrap (IntKind.u32.wrap (a + b) + lowS0 x) + lowS1 y) = wNew a x b y := by
  unfold wNew
  simp only [IntKind.wrap_u32]
  omega

/-- the words of the one block that is looked at: a bit, then noughts -/
def wv (t : Nat) : Int := if t = 0 then 2147483648 else if t < 16 then 0 else wNew (wv (t - 16)) (wv (t - 15)) (wv (t - 7)) (wv (t - 2))
termination_by t
decreasing_by all_goals omega

theorem wv_zero : wv 0 = 2147483648 := by rw [wv]; rfl
theorem wv_low {t : Nat} (h0 : t ≠ 0) (h : t < 16) : wv t = 0 := by rw [wv, if_neg h0, if_pos h]
theorem wv_high {t : Nat} (h : 16 ≤ t) : wv t = wNew (wv (t - 16)) (wv (t - 15)) (wv (t - 7)) (wv (t - 2)) := by
  rw [wv, if_neg (by omega), if_neg (by omega)]

/-- a byte of the block -/
def bv (i : Nat) : Int := if i = 0 then 128 else 0

def wCells (t : Nat) : List Value := (List.range 64).map fun j => .int .u32 (if j < t then wv j else 0)
def bCells : List Value := (List.range 64).map fun j => .int .u8 (bv j)

theorem wCells_length (t : Nat) : (wCells t).length = 64 := by simp [wCells]

theorem wCells_get {t j : Nat} (hj : j < 64) : (wCells t)[j]? = some (.int .u32 (if j < t then wv j else 0)) := by
  unfold wCells; rw [List.getElem?_map, List.getElem?_range hj]; rfl

theorem bCells_get {j : Nat} (hj : j < 64) : bCells[j]? = some (.int .u8 (bv j)) := by
  unfold bCells; rw [List.getElem?_map, List.getElem?_range hj]; rfl

theorem wCells_set (t : Nat) : (wCells t).set t (.int .u32 (wv t)) = wCells (t + 1) := by
  apply List.ext_getElem?
  intro i
  by_cases hi : i < 64
  · rw [List.getElem?_set, wCells_get hi, wCells_get hi, wCells_length]
    by_cases h : t = i
    · subst h; simp [hi]
    · rw [if_neg h]
      by_cases h2 : i < t
      · rw [if_pos h2, if_pos (by omega)]
      · rw [if_neg h2, if_neg (by omega)]
  · rw [List.getElem?_eq_none (by rw [List.length_set, wCells_length]; omega), List.getElem?_eq_none (by rw [wCells_length]; omega)]

theorem wCells_zero : wCells 0 = List.replicate 64 (.int .u32 0) := by
  apply List.ext_getElem?
  intro i
  by_cases hi : i < 64
  · rw [wCells_get hi, List.getElem?_replicate, if_pos hi]; simp
  · rw [List.getElem?_eq_none (by rw [wCells_length]; omega), List.getElem?_eq_none (by simp; omega)]

/-- the word that is being made out of the block's bytes -/
def wk (t k : Nat) : Int := if t = 0 then (if k = 0 then 0 else if k = 1 then 128 else if k = 2 then 32768 else if k = 3 then 8388608 else 2147483648) else 0

theorem wk_four {t : Nat} (h : t < 16) : wk t 4 = wv t := by
  unfold wk
  by_cases h0 : t = 0
  · subst h0; rw [wv_zero]; rfl
  · rw [if_neg h0, wv_low h0 h]

theorem wk_step (t k : Nat) (hk : k < 4) : bits BinOp.or IntKind.u32 (wk t k * 256 % 4294967296) (bv (4 * t + k)) = wk t (k + 1) := by
  have : k = 0 ∨ k = 1 ∨ k = 2 ∨ k = 3 := by omega
  unfold wk bv
  by_cases h0 : t = 0
  · subst h0
    rcases this with rfl | rfl | rfl | rfl <;> rfl
  · rw [if_neg h0, if_neg h0, if_neg (by omega)]
    rfl

theorem wk_step' (t k : Nat) (hk : k < 4) : bits BinOp.or IntKind.u32 (IntKind.u32.wrap (wk t k * 256)) (IntKind.u32.wrap (bv (4 * t + k))) = wk t (k + 1) := by
  have h := wk_step t k hk
  rw [IntKind.wrap_u32, IntKind.wrap_u32]
  have : bv (4 * t + k) % 4294967296 = bv (4 * t + k) := by unfold bv; split <;> rfl
  rw [this, h]

theorem wCells_start (t : Nat) : (wCells t).set t (.int .u32 (wk t 0)) = wCells t := by
  have h0 : wk t 0 = 0 := by unfold wk; split <;> rfl
  rw [h0]
  apply List.ext_getElem?
  intro i
  by_cases hi : i < 64
  · rw [List.getElem?_set, wCells_get hi, wCells_length]
    by_cases h : t = i
    · subst h; simp [hi]
    · rw [if_neg h]
  · rw [List.getElem?_eq_none (by rw [List.length_set, wCells_length]; omega), List.getElem?_eq_none (by rw [wCells_length]; omega)]

theorem wCells_set_get {t j : Nat} (v : Value) (hj : j < 64) (hjt : j ≠ t) : ((wCells t).set t v)[j]? = some (.int .u32 (if j < t then wv j else 0)) := by
  rw [List.getElem?_set, if_neg (fun h => hjt h.symm), wCells_get hj]

theorem wCells_set_self {t : Nat} (v : Value) (ht : t < 64) : ((wCells t).set t v)[t]? = some v := by
  rw [List.getElem?_set, if_pos rfl, if_pos (by rw [wCells_length]; exact ht)]

theorem wv_word {t : Nat} (h : t < 16) : bits BinOp.or IntKind.u32 (bits BinOp.or IntKind.u32 (bits BinOp.or IntKind.u32 (IntKind.u32.wrap (IntKind.u32.wrap (bv (4 * t)) * 16777216)) (IntKind.u32.wrap (IntKind.u32.wrap (bv (4 * t + 1)) * 65536))) (IntKind.u32.wrap (IntKind.u32.wrap (bv (4 * t + 2)) * 256))) (IntKind.u32.wrap (bv (4 * t + 3))) = wv t := by
  have b1 : bv (4 * t + 1) = 0 := by unfold bv; rw [if_neg (by omega)]
  have b2 : bv (4 * t + 2) = 0 := by unfold bv; rw [if_neg (by omega)]
  have b3 : bv (4 * t + 3) = 0 := by unfold bv; rw [if_neg (by omega)]
  rw [b1, b2, b3]
  by_cases h0 : t = 0
  · subst h0; rw [wv_zero]; rfl
  · rw [wv_low h0 h]
    have b0 : bv (4 * t) = 0 := by unfold bv; rw [if_neg (by omega)]
    rw [b0]; rfl

theorem wNew_eq2 (a x b y : Int) : (((a + lowS0 x) % 4294967296 + b) % 4294967296 + lowS1 y) % 4294967296 = wNew a x b y := by
  unfold wNew; omega

structure St where
  (a b c d e f g h : Int)

def St.cells (s : St) : List Value := [.int .u32 s.a, .int .u32 s.b, .int .u32 s.c, .int .u32 s.d, .int .u32 s.e, .int .u32 s.f, .int .u32 s.g, .int .u32 s.h]

def chI (e f g : Int) : Int := xorI (andI e f) (andI (bits BinOp.xor IntKind.u32 (if IntKind.u32.signed = true then -1 else IntKind.u32.max) e) g)

theorem one_eq (p x y : Int) : ((p % 4294967296 + x) % 4294967296 + y) % 4294967296 = (p + x + y) % 4294967296 := by omega
theorem one_eq2 (h k w x y : Int) : ((h + x + y + k) % 4294967296 + w) % 4294967296 = (h + k + w + x + y) % 4294967296 := by omega
theorem one_eq' (p x y : Int) : (((p) % 4294967296 + x) % 4294967296 + y) % 4294967296 = (p + x + y) % 4294967296 := by omega

/-- one step of the sixty-four -/
def stp (k w : Int) (s : St) : St :=
  ⟨((s.h + k + w + bigS1 s.e + chI s.e s.f s.g) % 4294967296 + (bigS0 s.a + maj s.a s.b s.c) % 4294967296) % 4294967296, s.a, s.b, s.c, (s.d + (s.h + k + w + bigS1 s.e + chI s.e s.f s.g) % 4294967296) % 4294967296, s.e, s.f, s.g⟩

def stN (K : Nat → Int) (s : St) : Nat → St
  | 0 => s
  | t + 1 => stp (K t) (wv t) (stN K s t)

/-- n words -/
def cellsF (n : Nat) (f : Nat → Int) : List Value := (List.range n).map fun j => .int .u32 (f j)

theorem cellsF_get {n j : Nat} {f : Nat → Int} (hj : j < n) : (cellsF n f)[j]? = some (.int .u32 (f j)) := by
  unfold cellsF; rw [List.getElem?_map, List.getElem?_range hj]; rfl

theorem cellsF_length (n : Nat) (f : Nat → Int) : (cellsF n f).length = n := by simp [cellsF]

theorem cellsF_set (n k : Nat) (f : Nat → Int) (v : Int) : (cellsF n f).set k (.int .u32 v) = cellsF n (fun j => if j = k then v else f j) := by
  apply List.ext_getElem?
  intro i
  by_cases hi : i < n
  · rw [List.getElem?_set, cellsF_get hi, cellsF_get hi, cellsF_length]
    by_cases h : k = i
    · subst h; simp [hi]
    · rw [if_neg h, if_neg (fun e => h e.symm)]
  · rw [List.getElem?_eq_none (by rw [List.length_set, cellsF_length]; omega), List.getElem?_eq_none (by rw [cellsF_length]; omega)]

def St.fn (s : St) (j : Nat) : Int := if j = 0 then s.a else if j = 1 then s.b else if j = 2 then s.c else if j = 3 then s.d else if j = 4 then s.e else if j = 5 then s.f else if j = 6 then s.g else s.h

theorem St.cells_fn (s : St) : s.cells = cellsF 8 s.fn := rfl

/-- the state behind the block -/
def sumF (s f : St) (k j : Nat) : Int := if j < k then (s.fn j + f.fn j) % 4294967296 else s.fn j

theorem sumF_zero (s f : St) : cellsF 8 (sumF s f 0) = s.cells := rfl

theorem sumF_set (s f : St) (k : Nat) : (cellsF 8 (sumF s f k)).set k (.int .u32 ((s.fn k + f.fn k) % 4294967296)) = cellsF 8 (sumF s f (k + 1)) := by
  rw [cellsF_set]
  congr 1
  funext j
  unfold sumF
  by_cases h : j = k
  · subst h; rw [if_pos rfl, if_pos (by omega)]
  · rw [if_neg h]
    by_cases h2 : j < k
    · rw [if_pos h2, if_pos (by omega)]
    · rw [if_neg h2, if_neg (by omega)]

def sumS (s f : St) : St := ⟨(s.a + f.a) % 4294967296, (s.b + f.b) % 4294967296, (s.c + f.c) % 4294967296, (s.d + f.d) % 4294967296, (s.e + f.e) % 4294967296, (s.f + f.f) % 4294967296, (s.g + f.g) % 4294967296, (s.h + f.h) % 4294967296⟩

theorem sumF_eight (s f : St) : cellsF 8 (sumF s f 8) = (sumS s f).cells := rfl

/-- the state behind the one block -/
def round (K : Nat → Int) (f : St) : St := sumS (stN K f 64) f

end Sha

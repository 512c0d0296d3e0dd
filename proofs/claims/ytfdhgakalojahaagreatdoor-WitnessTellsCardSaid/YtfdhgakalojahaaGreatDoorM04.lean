/- LAWS: a region that draws its order, operation by operation: each by a word of its own that what the others do leaves true. No program in sight. -/
import Derived.RegionTactic
import Derived.Test.YtfdhgakalojahaaGreatDoorM03
set_option linter.unusedSimpArgs false
set_option linter.unusedVariables false
set_option linter.unnecessarySimpa false
set_option linter.unusedSectionVars false
namespace Go.Proofs.YtfdhgakalojahaaGreatDoor
open Go Go.RowKit

def dstOf (ops : Array Oper) (i : Nat) : Option Tmp := (ops[i]?).bind (·.dst)

def valOf (ops : Array Oper) (a : Act) (i : Nat) : Value := match dstOf ops i with | some t => a.tmps.getD t undef | none => undef

/-- each operation waits for earlier ones alone; the slots written are there, and are parted -/
def okOps (ops : Array Oper) (n : Nat) : Bool :=
  (List.range ops.size).all fun i => match ops[i]? with
    | some o => (o.after.all fun e => decide (e.on < i)) && (match o.dst with | some t => decide (t < n) && (List.range ops.size).all fun j => decide (j = i) || decide (dstOf ops j ≠ some t) | none => true)
    | none => true

theorem okOps.at {ops : Array Oper} {n : Nat} (h : okOps ops n = true) {i : Nat} {o : Oper} (ho : ops[i]? = some o) :
    (∀ e ∈ o.after, e.on < i) ∧ (∀ t, o.dst = some t → t < n ∧ ∀ j, j ≠ i → j < ops.size → dstOf ops j ≠ some t) := by
  have hi : i < ops.size := (Array.getElem?_eq_some_iff.1 ho).1
  have h1 := List.all_eq_true.1 h i (List.mem_range.2 hi)
  rw [ho] at h1
  simp only [Bool.and_eq_true] at h1
  refine ⟨fun e he => by simpa using Array.all_eq_true_iff_forall_mem.1 h1.1 e (by simpa using he), fun t ht => ?_⟩
  have h2 := h1.2
  rw [ht] at h2
  simp only [Bool.and_eq_true, decide_eq_true_eq] at h2
  refine ⟨h2.1, fun j hj hl => ?_⟩
  have h3 := List.all_eq_true.1 h2.2 j (List.mem_range.2 hl)
  simp only [Bool.or_eq_true, decide_eq_true_eq] at h3
  exact h3.resolve_left hj

/-- the frame, but for the slots that the region writes -/
structure Fr (ops : Array Oper) (base a : Act) : Prop where
  defers : a.defers = base.defers
  size : a.tmps.size = base.tmps.size
  same : ∀ t, (∀ j, j < ops.size → dstOf ops j ≠ some t) → a.tmps.getD t undef = base.tmps.getD t undef

def freeOf (ops : Array Oper) (t : Tmp) : Bool := (List.range ops.size).all fun j => decide (dstOf ops j ≠ some t)

theorem Fr.at {ops : Array Oper} {base a : Act} (h : Fr ops base a) (t : Tmp) (hf : freeOf ops t = true) : a.tmps.getD t undef = base.tmps.getD t undef :=
  h.same t fun j hj => by simpa using List.all_eq_true.1 hf j (List.mem_range.2 hj)

theorem Fr.refl (ops : Array Oper) (a : Act) : Fr ops a a := ⟨rfl, rfl, fun _ _ => rfl⟩

theorem put_size (a : Act) (d : Option Tmp) (v : Value) : (a.put d v).tmps.size = a.tmps.size := by cases d <;> simp [Act.put]
theorem put_defers (a : Act) (d : Option Tmp) (v : Value) : (a.put d v).defers = a.defers := by cases d <;> rfl
theorem put_other (a : Act) (d : Option Tmp) (v : Value) (t : Tmp) (h : d ≠ some t) : (a.put d v).tmps.getD t undef = a.tmps.getD t undef := by
  cases d with
  | none => rfl
  | some d =>
    have hne : d ≠ t := fun e => h (by rw [e])
    simp [Act.put, Array.getD_eq_getD_getElem?, Array.getElem?_setIfInBounds, hne]
theorem put_self (a : Act) (t : Tmp) (v : Value) (h : t < a.tmps.size) : (a.put (some t) v).tmps.getD t undef = v := by
  simp [Act.put, Array.getD_eq_getD_getElem?, Array.getElem?_setIfInBounds, h]

theorem filter_less {α : Type} (l : List α) (p q : α → Bool) (h : ∀ x ∈ l, q x = true → p x = true) (x : α) (hx : x ∈ l) (hp : p x = true) (hq : q x = false) : (l.filter q).length < (l.filter p).length := by
  induction l with
  | nil => cases hx
  | cons y l ih =>
    have hl : (l.filter q).length ≤ (l.filter p).length := by
      clear ih hx
      induction l with
      | nil => simp
      | cons z l ih2 =>
        have h' : ∀ x ∈ y :: l, q x = true → p x = true := fun x hx => h x (by simp only [List.mem_cons] at hx ⊢; rcases hx with h1 | h1 <;> simp [h1])
        have := ih2 h'
        have hz := h z (by simp)
        rw [List.filter_cons, List.filter_cons]
        cases hqz : q z
        · cases hpz : p z <;> simp <;> omega
        · rw [hz hqz]; simp; omega
    rw [List.filter_cons, List.filter_cons]
    rcases List.mem_cons.1 hx with rfl | hx'
    · rw [hp, hq]; simp; omega
    · have := ih (fun z hz => h z (List.mem_cons_of_mem _ hz)) hx'
      have hy := h y (by simp)
      cases hqy : q y
      · cases hpy : p y <;> simp <;> omega
      · rw [hy hqy]; simp; omega

def leftOf (ops : Array Oper) (listed : Array Bool) : Nat := ((List.range ops.size).filter fun i => !listed.getD i true).length

theorem set_getD (l : Array Bool) (i j : Nat) (d : Bool) : (l.setIfInBounds i true).getD j d = if i = j then (if i < l.size then true else d) else l.getD j d := by
  simp only [Array.getD_eq_getD_getElem?, Array.getElem?_setIfInBounds]
  by_cases h : i = j
  · subst h
    by_cases hl : i < l.size <;> simp [hl]
  · simp [h]

section
variable {P : Program} {ops : Array Oper} {Q : Exit → Act → World → Prop} {md : Region.Mode}

/-- THE LAW: 'VV i' is what is known of operation i's value behind it; 'St i' what operation i may do to the world; what one does leaves the others' words true. -/
theorem wpAny_each (base : Act) (Inv : World → Prop) (VV : Nat → Value → World → Prop) (St : Nat → World → World → Prop)
    (hok : okOps ops base.tmps.size = true)
    (hst : ∀ i j v w w', j ≠ i → VV j v w → St i w w' → VV j v w')
    (step : ∀ i o a w, ops[i]? = some o → Fr ops base a → Inv w → (∀ e ∈ o.after, Region.binds md e = true → VV e.on (valOf ops a e.on) w) →
      ∀ K : Act → World → Prop, (∀ v w', (o.dst = none → v = undef) → VV i v w' → St i w w' → Inv w' → K (a.put o.dst v) w') → if Region.wanted o (yielded ops a.tmps) = true then Oper.wp P o a w K Q else K (a.put o.dst undef) w)
    (fin : ∀ a w, Fr ops base a → Inv w → (∀ i, i < ops.size → VV i (valOf ops a i) w) → Q .normal a w) (w : World) (hw : Inv w) :
    wpAny P md ops Q ops.size (Array.replicate ops.size false) base w := by
  have key : ∀ (fuel : Nat) (listed : Array Bool) (a : Act) (w : World), listed.size = ops.size → leftOf ops listed ≤ fuel → Fr ops base a → Inv w →
      (∀ i, i < ops.size → listed.getD i false = true → VV i (valOf ops a i) w) → wpAny P md ops Q fuel listed a w := by
    intro fuel
    induction fuel with
    | zero =>
      intro listed a w hs hf hF hI hV
      have hall : ∀ i, i < ops.size → listed.getD i true = true := by
        intro i hi
        cases hc : listed.getD i true with
        | true => rfl
        | false =>
          have : i ∈ (List.range ops.size).filter fun i => !listed.getD i true := List.mem_filter.2 ⟨List.mem_range.2 hi, by simp only [hc]; rfl⟩
          have h2 := List.length_pos_of_mem this
          unfold leftOf at hf
          omega
      refine wpAny_done ?_ (fin a w hF hI fun i hi => hV i hi ?_) 0
      · unfold Region.ready
        rw [List.filter_eq_nil_iff]
        intro i hi
        rw [hall i (List.mem_range.1 hi)]
        simp
      · have := hall i hi
        rw [Array.getD_eq_getD_getElem?, Array.getElem?_eq_getElem (by omega)] at this ⊢
        exact this
    | succ fuel ih =>
      intro listed a w hs hf hF hI hV
      by_cases hr : Region.ready md ops listed = []
      · refine wpAny_done hr (fin a w hF hI fun i hi => hV i hi ?_) _
        -- the least that is not listed would be ready
        suffices h : ∀ k, k ≤ ops.size → ∀ i, i < k → listed.getD i false = true from h ops.size (Nat.le_refl _) i hi
        intro k
        induction k with
        | zero => intro _ i hi; omega
        | succ k ihk =>
          intro hk i hi'
          have hlow := ihk (by omega)
          by_cases hik : i < k
          · exact hlow i hik
          · have : i = k := by omega
            subst this
            cases hc : listed.getD i false with
            | true => rfl
            | false =>
              exfalso
              have hmem : i ∈ Region.ready md ops listed := by
                unfold Region.ready
                refine List.mem_filter.2 ⟨List.mem_range.2 (by omega), ?_⟩
                have ho : ops[i]? = some ops[i] := Array.getElem?_eq_getElem (by omega)
                have hc' : listed.getD i true = false := by
                  rw [Array.getD_eq_getD_getElem?, Array.getElem?_eq_getElem (by omega)] at hc ⊢
                  exact hc
                rw [hc', ho]
                simp only [Bool.not_false, Bool.true_and, Option.map_some, Option.getD_some]
                rw [Array.all_eq_true_iff_forall_mem]
                intro e he
                have := (okOps.at hok ho).1 e he
                rw [hlow e.on this]
                simp
              rw [hr] at hmem
              cases hmem
      · refine wpAny_all rfl hr fun i hi => ?_
        have hi' := List.mem_filter.1 hi
        have hil : i < ops.size := List.mem_range.1 hi'.1
        have ho : ops[i]? = some ops[i] := Array.getElem?_eq_getElem hil
        obtain ⟨hun, haf⟩ := Bool.and_eq_true_iff.1 hi'.2
        have hun' : listed.getD i true = false := by simpa using hun
        rw [ho] at haf
        simp only [Option.map_some, Option.getD_some] at haf
        refine wpOp_step ho fun K hK => step i ops[i] a w ho hF hI (fun e he hb => ?_) K fun v w' hvn hv hS hI' => hK _ _ ?_
        · have h1 := Array.all_eq_true_iff_forall_mem.1 haf e he
          rw [hb] at h1
          simp only [Bool.not_true, Bool.false_or] at h1
          exact hV e.on (Nat.lt_trans ((okOps.at hok ho).1 e he) hil) h1
        · refine ih _ _ _ (by simp [hs]) ?_ ?_ hI' ?_
          · have : leftOf ops (listed.setIfInBounds i true) < leftOf ops listed := by
              unfold leftOf
              refine filter_less _ _ _ (fun x hx hq => ?_) i (List.mem_range.2 hil) (by rw [hun']; rfl) ?_
              · rw [set_getD] at hq
                by_cases h : i = x
                · rw [if_pos h, if_pos (by omega)] at hq; simp at hq
                · rwa [if_neg h] at hq
              · rw [set_getD, if_pos rfl, if_pos (by omega)]; rfl
            omega
          · refine ⟨by rw [put_defers, hF.defers], by rw [put_size, hF.size], fun t ht => ?_⟩
            rw [put_other _ _ _ _ (by have := ht i hil; unfold dstOf at this; rw [ho] at this; exact this), hF.same t ht]
          · intro j hj hl
            rw [set_getD] at hl
            by_cases h : i = j
            · subst h
              unfold valOf dstOf
              rw [ho]
              simp only [Option.bind_some]
              cases hd : ops[i].dst with
              | none => rw [hvn hd] at hv; exact hv
              | some t =>
                have := ((okOps.at hok ho).2 t hd).1
                simp only
                rw [put_self _ _ _ (by rw [hF.size]; exact this)]
                exact hv
            · rw [if_neg h] at hl
              have hold := hV j hj hl
              have heq : valOf ops (a.put ops[i].dst v) j = valOf ops a j := by
                unfold valOf
                cases hd : dstOf ops j with
                | none => rfl
                | some t =>
                  simp only
                  refine put_other _ _ _ _ fun e => ?_
                  exact ((okOps.at hok ho).2 t e).2 j (fun e => h e.symm) hj hd
              rw [heq]
              exact hst i j _ _ _ (fun e => h e.symm) hold hS
  refine key _ _ _ _ (by simp) ?_ (Fr.refl _ _) hw fun i hi hl => ?_
  · unfold leftOf
    exact Nat.le_trans (List.length_filter_le _ _) (by simp)
  · simp [Array.getD_eq_getD_getElem?, hi] at hl
end
end Go.Proofs.YtfdhgakalojahaaGreatDoor

/- PLAIN: values as trees, their sizes; no program in sight. PLAIN: UTF-8 as the reference and the program read it, on lists of bytes; no program in sight. PLAIN: how the program holds two right texts against each other; no program in sight. PLAIN: the object of keys and values, in the order of its keys; no program in sight. PLAIN: rows in rising order of a key, put together by halves; no program in sight. -/
set_option linter.unusedSimpArgs false
set_option linter.unusedVariables false
set_option linter.unnecessarySimpa false
set_option linter.unusedSectionVars false
namespace Tree

inductive Tr where
  | null
  | flag (b : Bool)
  | num (bits : Nat)
  | text (s : ByteArray)
  | list (l : List Tr)
  | obj (ks : List ByteArray) (l : List Tr)

/-- how many values, how many bytes, how deep -/
structure Sz where
  nodes : Nat
  bytes : Nat
  depth : Nat

def Sz.add (a b : Sz) : Sz := ⟨a.nodes + b.nodes, a.bytes + b.bytes, max a.depth b.depth⟩
def Sz.over (a : Sz) (k : Nat) : Sz := ⟨1 + a.nodes, k + a.bytes, a.depth + 1⟩
def Sz.within (a : Sz) : Bool := decide (a.nodes ≤ 65536) && decide (a.bytes ≤ 2097152) && decide (a.depth ≤ 512)

def bytesOf (ks : List ByteArray) : Nat := (ks.map (·.size)).sum

mutual
def szT : Tr → Sz
  | .text s => ⟨1, s.size, 1⟩
  | .list l => (szL l).over 0
  | .obj ks l => (szL l).over (bytesOf ks)
  | _ => ⟨1, 0, 1⟩
def szL : List Tr → Sz
  | [] => ⟨0, 0, 0⟩
  | t :: l => (szT t).add (szL l)
end

theorem Sz.add_assoc (a b c : Sz) : (a.add b).add c = a.add (b.add c) := by
  unfold Sz.add; simp [Nat.add_assoc, Nat.max_assoc]

theorem Sz.zero_add (a : Sz) : Sz.add ⟨0, 0, 0⟩ a = a := by unfold Sz.add; simp
theorem Sz.add_zero (a : Sz) : Sz.add a ⟨0, 0, 0⟩ = a := by unfold Sz.add; simp

theorem szL_append (l m : List Tr) : szL (l ++ m) = (szL l).add (szL m) := by
  induction l with
  | nil => simp [szL, Sz.zero_add]
  | cons t l ih => simp [szL, ih, Sz.add_assoc]

theorem szL_take_succ {l : List Tr} {k : Nat} {t : Tr} (h : l[k]? = some t) : szL (l.take (k + 1)) = (szL (l.take k)).add (szT t) := by
  rw [List.take_add_one, h, szL_append]
  simp [szL, Sz.add_zero]

/-- every tree of a row is within the limits -/
def Fits (l : List Tr) : Prop := ∀ t ∈ l, (szT t).within = true

theorem within_le {s : Sz} (h : s.within = true) : s.nodes ≤ 65536 ∧ s.bytes ≤ 2097152 ∧ s.depth ≤ 512 := by
  unfold Sz.within at h
  simpa [and_assoc] using h

theorem Fits.sum {l : List Tr} (h : Fits l) : (szL l).nodes ≤ 65536 * l.length ∧ (szL l).bytes ≤ 2097152 * l.length ∧ (szL l).depth ≤ 512 := by
  induction l with
  | nil => simp [szL]
  | cons t l ih =>
    have h1 := within_le (h t (by simp))
    have h2 := ih fun u hu => h u (by simp [hu])
    simp only [szL, Sz.add, List.length_cons]
    omega

theorem Fits.take {l : List Tr} (h : Fits l) (k : Nat) : Fits (l.take k) := fun t ht => h t (List.mem_of_mem_take ht)
theorem Fits.drop {l : List Tr} (h : Fits l) (k : Nat) : Fits (l.drop k) := fun t ht => h t (List.mem_of_mem_drop ht)

end Tree

namespace Utf

def wideN (c : Nat) : Nat :=
  if c < 128 then 1 else if 194 ≤ c ∧ c ≤ 223 then 2 else if 224 ≤ c ∧ c ≤ 239 then 3 else if 240 ≤ c ∧ c ≤ 244 then 4 else 0

def contB (d : Nat) : Bool := decide (128 ≤ d ∧ d ≤ 191)

def secondB (c d : Nat) : Bool :=
  if d < 128 ∨ 191 < d then false
  else if c = 224 then decide (160 ≤ d)
  else if c = 237 then decide (d ≤ 159)
  else if c = 240 then decide (144 ≤ d)
  else if c = 244 then decide (d ≤ 143)
  else true

/-- the i-th byte of a form that begins with c may be d -/
def mayB (c i d : Nat) : Bool := if i = 1 then secondB c d else contB d

/-- a byte of a text, 0 behind it -/
def byteAt (s : ByteArray) (k : Nat) : Nat := if h : k < s.size then (s[k]'h).toNat else 0

theorem byteAt_eq {s : ByteArray} {k : Nat} (h : k < s.size) : byteAt s k = (s[k]'h).toNat := by unfold byteAt; rw [dif_pos h]

theorem byteAt_lt (s : ByteArray) (k : Nat) : byteAt s k < 256 := by
  unfold byteAt; split
  · exact UInt8.toNat_lt _
  · omega

theorem wideN_le (c : Nat) : wideN c ≤ 4 := by unfold wideN; repeat' split
                                               all_goals omega

def wideAt (s : ByteArray) (a : Nat) : Nat := wideN (byteAt s a)

/-- the first k bytes at a may stand there -/
def fitsTo (s : ByteArray) (a k : Nat) : Prop := ∀ i, 1 ≤ i → i < k → a + i < s.size ∧ mayB (byteAt s a) i (byteAt s (a + i)) = true

def okAt (s : ByteArray) (a : Nat) : Prop := wideAt s a ≠ 0 ∧ fitsTo s a (wideAt s a)

def offN (n : Nat) : Nat := if n = 2 then 192 else if n = 3 then 224 else if n = 4 then 240 else 0

/-- the number that the first j bytes say -/
def runeTo (s : ByteArray) (a : Nat) : Nat → Int
  | 0 => 0
  | 1 => (byteAt s a : Int) - offN (wideAt s a)
  | j + 1 => 64 * runeTo s a j + byteAt s (a + j) - 128

def runeAt (s : ByteArray) (a : Nat) : Int := runeTo s a (wideAt s a)

theorem offN_le (c : Nat) (h : wideN c ≠ 0) : offN (wideN c) ≤ c := by
  unfold wideN at *; unfold offN; repeat' split
  all_goals simp at *
  all_goals omega

theorem fitsTo_cont {s : ByteArray} {a k : Nat} (h : fitsTo s a k) (i : Nat) (h1 : 1 ≤ i) (h2 : i < k) : 128 ≤ byteAt s (a + i) ∧ byteAt s (a + i) ≤ 191 := by
  have := (h i h1 h2).2
  unfold mayB at this
  split at this
  · unfold secondB at this
    by_cases g : byteAt s (a + i) < 128 ∨ 191 < byteAt s (a + i)
    · rw [if_pos g] at this; cases this
    · omega
  · unfold contB at this; simpa using this

theorem runeTo_bd {s : ByteArray} {a n : Nat} (hw : wideAt s a ≠ 0) (_hn : n ≤ 4) (h : fitsTo s a n) : ∀ j, 1 ≤ j → j ≤ n → 0 ≤ runeTo s a j ∧ runeTo s a j < 256 * 64 ^ (j - 1)
  | 0, h1, _ => by omega
  | 1, _, _ => by
    have := offN_le (byteAt s a) hw
    have := byteAt_lt s a
    unfold runeTo; unfold wideAt; simp; omega
  | j + 2, _, h2 => by
    have ih := runeTo_bd hw _hn h (j + 1) (by omega) (by omega)
    have hb := fitsTo_cont h (j + 1) (by omega) (by omega)
    have e : (256 : Int) * 64 ^ (j + 2 - 1) = 64 * (256 * 64 ^ (j + 1 - 1)) := by
      rw [show j + 2 - 1 = (j + 1 - 1) + 1 from by omega, Int.pow_succ]; omega
    rw [e]
    show 0 ≤ 64 * runeTo s a (j + 1) + byteAt s (a + (j + 1)) - 128 ∧ 64 * runeTo s a (j + 1) + byteAt s (a + (j + 1)) - 128 < _
    omega

theorem fitsTo_succ {s : ByteArray} {a k : Nat} (h : fitsTo s a k) (hk : a + k < s.size) (hm : 1 ≤ k → mayB (byteAt s a) k (byteAt s (a + k)) = true) : fitsTo s a (k + 1) := by
  intro i h1 h2
  by_cases g : i = k
  · subst g; exact ⟨hk, hm h1⟩
  · exact h i h1 (by omega)

theorem not_okAt {s : ByteArray} {a k n : Nat} (hn : n = wideAt s a) (h1 : 1 ≤ k) (h2 : k < n) (h : ¬ (a + k < s.size ∧ mayB (byteAt s a) k (byteAt s (a + k)) = true)) : ¬ okAt s a := by
  rintro ⟨_, g⟩
  rw [← hn] at g
  exact h (g k h1 h2)

theorem mayB_one {c d : Nat} : mayB c 1 d = secondB c d := rfl
theorem mayB_ne {c k d : Nat} (h : k ≠ 1) : mayB c k d = contB d := by unfold mayB; rw [if_neg h]
theorem secondB_cont {c d : Nat} (h : secondB c d = true) : 128 ≤ d ∧ d ≤ 191 := by
  unfold secondB at h
  by_cases g : d < 128 ∨ 191 < d
  · rw [if_pos g] at h; cases h
  · omega

theorem runeTo_lt {s : ByteArray} {a n : Nat} (hw : wideAt s a ≠ 0) (hn : n ≤ 4) (h : fitsTo s a n) (j : Nat) (h1 : 1 ≤ j) (h2 : j ≤ n) : 0 ≤ runeTo s a j ∧ runeTo s a j < 67108864 := by
  have := runeTo_bd hw hn h j h1 h2
  have e : (64 : Int) ^ (j - 1) ≤ 64 ^ 3 := by
    have hj : j = 1 ∨ j = 2 ∨ j = 3 ∨ j = 4 := by omega
    rcases hj with rfl | rfl | rfl | rfl <;> decide
  have : (64 : Int) ^ 3 = 262144 := by decide
  omega

def okB (s : ByteArray) (a : Nat) : Bool :=
  decide (wideAt s a ≠ 0) && decide (a + wideAt s a ≤ s.size) &&
    (decide (wideAt s a < 2) || secondB (byteAt s a) (byteAt s (a + 1))) &&
    (decide (wideAt s a < 3) || contB (byteAt s (a + 2))) && (decide (wideAt s a < 4) || contB (byteAt s (a + 3)))

theorem okB_iff {s : ByteArray} {a : Nat} (ha : a < s.size) : okB s a = true ↔ okAt s a := by
  have h4 := wideN_le (byteAt s a)
  rw [show wideN (byteAt s a) = wideAt s a from rfl] at h4
  unfold okB okAt fitsTo
  simp only [Bool.and_eq_true, Bool.or_eq_true, decide_eq_true_eq]
  constructor
  · rintro ⟨⟨⟨⟨h0, h1⟩, h2⟩, h3⟩, h5⟩
    refine ⟨h0, fun i g1 g2 => ⟨by omega, ?_⟩⟩
    have hi : i = 1 ∨ i = 2 ∨ i = 3 := by omega
    rcases hi with rfl | rfl | rfl
    · rw [mayB_one]; exact h2.resolve_left (by omega)
    · rw [mayB_ne (by omega)]; exact h3.resolve_left (by omega)
    · rw [mayB_ne (by omega)]; exact h5.resolve_left (by omega)
  · rintro ⟨h0, h1⟩
    refine ⟨⟨⟨⟨h0, ?_⟩, ?_⟩, ?_⟩, ?_⟩
    · by_cases g : wideAt s a = 1
      · omega
      · have := (h1 (wideAt s a - 1) (by omega) (by omega)).1; omega
    · by_cases g : wideAt s a < 2
      · exact .inl g
      · have := (h1 1 (by omega) (by omega)).2; rw [mayB_one] at this; exact .inr this
    · by_cases g : wideAt s a < 3
      · exact .inl g
      · have := (h1 2 (by omega) (by omega)).2; rw [mayB_ne (by omega)] at this; exact .inr this
    · by_cases g : wideAt s a < 4
      · exact .inl g
      · have := (h1 3 (by omega) (by omega)).2; rw [mayB_ne (by omega)] at this; exact .inr this

/-- the bounds of a form's second byte, as the program has them -/
def lowN (c : Nat) : Nat := if c < 194 then 0 else if c = 224 then 160 else if c = 240 then 144 else if c ≤ 244 then 128 else 0
def highN (c : Nat) : Nat := if c < 194 then 0 else if c = 237 then 159 else if c = 244 then 143 else if c ≤ 244 then 191 else 0

theorem second_low {c : Nat} (d : Nat) (h : 2 ≤ wideN c) : secondB c d = decide (lowN c ≤ d ∧ d ≤ highN c) := by
  have hc : 194 ≤ c ∧ c ≤ 244 := by
    unfold wideN at h
    split at h
    · omega
    · split at h
      · omega
      · split at h
        · omega
        · split at h
          · omega
          · omega
  unfold secondB lowN highN
  rw [Bool.eq_iff_iff]
  repeat' split
  all_goals simp
  all_goals omega

/-- a text's characters from a byte on, if it is right from there on -/
def runesF (s : ByteArray) : Nat → Nat → Option (List Int)
  | 0, p => if s.size ≤ p then some [] else none
  | k + 1, p => if s.size ≤ p then some [] else if okB s p then (runesF s k (p + wideAt s p)).map (runeAt s p :: ·) else none

def runes (s : ByteArray) : Option (List Int) := runesF s s.size 0

def rightB (s : ByteArray) : Bool := (runes s).isSome

/-- how a feeder stands behind k bytes of s: m of them are held, of a form that begins with h -/
def Inv (s : ByteArray) (k m h : Nat) : Prop :=
  m ≤ k ∧ k ≤ s.size ∧ (m = 0 ∨ (m < wideAt s (k - m) ∧ fitsTo s (k - m) m ∧ h = byteAt s (k - m))) ∧ ∃ f, s.size ≤ k - m + f ∧ (runesF s f (k - m)).isSome = rightB s

theorem inv_start (s : ByteArray) (h : Nat) : Inv s 0 0 h := ⟨by omega, by omega, .inl rfl, s.size, by omega, rfl⟩

theorem runesF_step {s : ByteArray} {f p : Nat} (h : okB s p = true) (hp : p < s.size) (hf : s.size ≤ p + f) : ∃ g, f = g + 1 ∧ s.size ≤ p + wideAt s p + g ∧
    (runesF s f p).isSome = (runesF s g (p + wideAt s p)).isSome := by
  obtain ⟨g, rfl⟩ : ∃ g, f = g + 1 := ⟨f - 1, by omega⟩
  have h0 := ((okB_iff hp).1 h).1
  refine ⟨g, rfl, by omega, ?_⟩
  simp [runesF, h, show ¬ s.size ≤ p by omega]

theorem runesF_bad {s : ByteArray} {f p : Nat} (h : okB s p = false) (hp : p < s.size) : (runesF s f p).isSome = false := by
  cases f <;> simp [runesF, h, show ¬ s.size ≤ p by omega]

theorem okB_wide {s : ByteArray} {p : Nat} (h : wideAt s p = 0) : okB s p = false := by unfold okB; simp [h]

theorem inv_no {s : ByteArray} {k h : Nat} (i : Inv s k 0 h) (hk : k < s.size) (hw : wideN (byteAt s k) = 0) : rightB s = false := by
  obtain ⟨_, _, _, f, _, hr⟩ := i
  rw [← hr]
  exact runesF_bad (okB_wide hw) hk

theorem inv_full {s : ByteArray} {k m h : Nat} (i : Inv s k m h) (hq : k - m < s.size) (hok : okB s (k - m) = true) (hk : k < s.size) (e : k - m + wideAt s (k - m) = k + 1) (h' : Nat) : Inv s (k + 1) 0 h' := by
  obtain ⟨h1, h2, _, f, hf, hr⟩ := i
  obtain ⟨g, rfl, hg, hgr⟩ := runesF_step hok hq hf
  refine ⟨by omega, by omega, .inl rfl, g, by omega, ?_⟩
  rw [← hr, hgr, e, Nat.sub_zero]

theorem inv_one {s : ByteArray} {k h : Nat} (i : Inv s k 0 h) (hk : k < s.size) (hw : wideN (byteAt s k) = 1) (h' : Nat) : Inv s (k + 1) 0 h' := by
  have hok : okB s k = true := (okB_iff hk).2 ⟨by unfold wideAt; omega, fun j h1 h2 => by unfold wideAt at h2; omega⟩
  exact inv_full i (by omega) hok hk (by show k + wideAt s k = k + 1; unfold wideAt; omega) h'

theorem inv_more {s : ByteArray} {k h : Nat} (i : Inv s k 0 h) (hk : k < s.size) (hw : 2 ≤ wideN (byteAt s k)) : Inv s (k + 1) 1 (byteAt s k) := by
  obtain ⟨h1, h2, _, f, hf, hr⟩ := i
  refine ⟨by omega, by omega, .inr ⟨?_, ?_, ?_⟩, f, by omega, ?_⟩
  · show 1 < wideN (byteAt s (k + 1 - 1)); rw [Nat.add_sub_cancel]; omega
  · intro j g1 g2; omega
  · simp
  · simpa using hr

theorem inv_in {s : ByteArray} {k m h : Nat} (i : Inv s k m h) (hm : 1 ≤ m) (hk : k < s.size) (hw : m + 1 < wideN h) (hb : mayB h m (byteAt s k) = true) : Inv s (k + 1) (m + 1) h := by
  obtain ⟨h1, h2, h3, f, hf, hr⟩ := i
  obtain ⟨g3, h4, rfl⟩ := h3.resolve_left (by omega)
  have e : k + 1 - (m + 1) = k - m := by omega
  refine ⟨by omega, by omega, .inr ⟨by rw [e]; exact hw, ?_, by rw [e]⟩, f, by omega, by rw [e]; exact hr⟩
  rw [e]
  refine fitsTo_succ h4 (by omega) fun _ => ?_
  rw [show k - m + m = k from by omega]; exact hb

theorem inv_last {s : ByteArray} {k m h : Nat} (i : Inv s k m h) (hm : 1 ≤ m) (hk : k < s.size) (hw : m + 1 = wideN h) (hb : mayB h m (byteAt s k) = true) (h' : Nat) : Inv s (k + 1) 0 h' := by
  have i' := i
  obtain ⟨h1, h2, h3, f, hf, hr⟩ := i
  obtain ⟨g3, h4, rfl⟩ := h3.resolve_left (by omega)
  have hq : k - m < s.size := by omega
  have hwa : wideAt s (k - m) = m + 1 := hw.symm
  refine inv_full i' hq ((okB_iff hq).2 ⟨by omega, ?_⟩) hk (by omega) h'
  rw [hwa]
  refine fitsTo_succ h4 (by omega) fun _ => ?_
  rw [show k - m + m = k from by omega]; exact hb

theorem inv_bad {s : ByteArray} {k m h : Nat} (i : Inv s k m h) (hm : 1 ≤ m) (hk : k < s.size) (hb : mayB h m (byteAt s k) = false) : rightB s = false := by
  obtain ⟨h1, h2, h3, f, hf, hr⟩ := i
  obtain ⟨g3, h4, rfl⟩ := h3.resolve_left (by omega)
  have hq : k - m < s.size := by omega
  rw [← hr]
  refine runesF_bad ?_ hq
  cases g : okB s (k - m) with
  | false => rfl
  | true =>
    have := (((okB_iff hq).1 g).2 m hm g3).2
    rw [show k - m + m = k from by omega, hb] at this; cases this

theorem inv_wide {s : ByteArray} {k m h : Nat} (i : Inv s k m h) (hm : 1 ≤ m) : m < wideN h ∧ m ≤ 3 ∧ h < 256 := by
  obtain ⟨h1, h2, h3, f, hf, hr⟩ := i
  obtain ⟨g3, h4, rfl⟩ := h3.resolve_left (by omega)
  have := wideN_le (byteAt s (k - m))
  have := byteAt_lt s (k - m)
  unfold wideAt at g3
  omega

theorem inv_end {s : ByteArray} {h : Nat} (i : Inv s s.size 0 h) : rightB s = true := by
  obtain ⟨_, _, _, f, _, hr⟩ := i
  rw [← hr]
  cases f <;> simp [runesF]

theorem inv_cut {s : ByteArray} {m h : Nat} (i : Inv s s.size m h) (hm : 1 ≤ m) : rightB s = false := by
  obtain ⟨h1, h2, h3, f, hf, hr⟩ := i
  obtain ⟨g3, h4, rfl⟩ := h3.resolve_left (by omega)
  have hq : s.size - m < s.size := by omega
  rw [← hr]
  refine runesF_bad ?_ hq
  cases g : okB s (s.size - m) with
  | false => rfl
  | true =>
    have := (((okB_iff hq).1 g).2 m hm g3).1
    omega

end Utf

namespace Utf

def bytesL (s : ByteArray) : List Nat := (List.range s.size).map (byteAt s)

def highB (c : Nat) : Bool := decide (240 ≤ c)

def cmpByte (x y : Nat) : Int :=
  if 240 ≤ x ∧ ¬ 240 ≤ y ∧ 238 ≤ y then -1 else if 240 ≤ y ∧ ¬ 240 ≤ x ∧ 238 ≤ x then 1 else if x < y then -1 else 1

def cmpL : List Nat → List Nat → Int
  | [], [] => 0
  | [], _ :: _ => -1
  | _ :: _, [] => 1
  | x :: a, y :: b => if x = y then cmpL a b else cmpByte x y

def cmpR (a b : ByteArray) : Int := cmpL (bytesL a) (bytesL b)

theorem bytesL_length (s : ByteArray) : (bytesL s).length = s.size := by simp [bytesL]

theorem bytesL_drop {s : ByteArray} {i : Nat} (h : i < s.size) : (bytesL s).drop i = byteAt s i :: (bytesL s).drop (i + 1) := by
  rw [List.drop_eq_getElem_cons (by rw [bytesL_length]; exact h)]
  congr 1
  simp [bytesL]

theorem bytesL_end {s : ByteArray} {i : Nat} (h : s.size ≤ i) : (bytesL s).drop i = [] := List.drop_of_length_le (by rw [bytesL_length]; exact h)

theorem bytesL_lt (s : ByteArray) : ∀ c ∈ bytesL s, c < 256 := by
  intro c hc
  obtain ⟨i, _, rfl⟩ := List.mem_map.1 hc
  exact byteAt_lt s i

/-- a byte's rank -/
def rk (c : Nat) : Nat := if c < 238 then c else if c < 240 then c + 16 else c - 2

theorem rk_inj {x y : Nat} (hx : x < 256) (hy : y < 256) (h : rk x = rk y) : x = y := by
  unfold rk at h
  repeat' split at h
  all_goals omega

theorem cmpByte_rk {x y : Nat} (hx : x < 256) (hy : y < 256) (h : x ≠ y) : cmpByte x y = if rk x < rk y then -1 else 1 := by
  unfold cmpByte rk
  repeat' split
  all_goals first | rfl | omega

/-- lists of numbers, by their first difference -/
def lex : List Nat → List Nat → Int
  | [], [] => 0
  | [], _ :: _ => -1
  | _ :: _, [] => 1
  | x :: a, y :: b => if x = y then lex a b else if x < y then -1 else 1

theorem cmpL_lex : ∀ (a b : List Nat), (∀ c ∈ a, c < 256) → (∀ c ∈ b, c < 256) → cmpL a b = lex (a.map rk) (b.map rk)
  | [], [], _, _ => rfl
  | [], _ :: _, _, _ => rfl
  | _ :: _, [], _, _ => rfl
  | x :: a, y :: b, ha, hb => by
    have hx := ha x (by simp)
    have hy := hb y (by simp)
    simp only [cmpL, List.map_cons, lex]
    by_cases h : x = y
    · subst h
      rw [if_pos rfl, if_pos rfl]
      exact cmpL_lex a b (fun c hc => ha c (by simp [hc])) (fun c hc => hb c (by simp [hc]))
    · rw [if_neg h, if_neg (fun e => h (rk_inj hx hy e)), cmpByte_rk hx hy h]

theorem lex_self : ∀ a : List Nat, lex a a = 0
  | [] => rfl
  | x :: a => by simp [lex, lex_self a]

theorem lex_eq : ∀ {a b : List Nat}, lex a b = 0 → a = b
  | [], [], _ => rfl
  | [], _ :: _, h => by simp [lex] at h
  | _ :: _, [], h => by simp [lex] at h
  | x :: a, y :: b, h => by
    simp only [lex] at h
    by_cases e : x = y
    · rw [if_pos e] at h; rw [e, lex_eq h]
    · rw [if_neg e] at h; split at h <;> omega

theorem lex_neg : ∀ (a b : List Nat), lex b a = - lex a b
  | [], [] => rfl
  | [], _ :: _ => rfl
  | _ :: _, [] => rfl
  | x :: a, y :: b => by
    simp only [lex]
    by_cases e : x = y
    · rw [if_pos e, if_pos e.symm, lex_neg a b]
    · rw [if_neg e, if_neg (fun h => e h.symm)]
      split <;> split <;> omega

theorem lex_range (a b : List Nat) : lex a b = -1 ∨ lex a b = 0 ∨ lex a b = 1 := by
  match a, b with
  | [], [] => simp [lex]
  | [], _ :: _ => simp [lex]
  | _ :: _, [] => simp [lex]
  | x :: a, y :: b =>
    simp only [lex]
    have := lex_range a b
    repeat' split
    all_goals omega

theorem lex_trans : ∀ {a b c : List Nat}, lex a b < 0 → lex b c < 0 → lex a c < 0
  | [], [], _, h, _ => by simp [lex] at h
  | [], _ :: _, [], _, h => by simp [lex] at h
  | [], _ :: _, _ :: _, _, _ => by simp [lex]
  | _ :: _, [], _, h, _ => by simp [lex] at h
  | _ :: _, _ :: _, [], _, h => by simp [lex] at h
  | x :: a, y :: b, z :: c, h1, h2 => by
    simp only [lex] at *
    by_cases e1 : x = y
    · subst e1
      rw [if_pos rfl] at h1
      by_cases e2 : x = z
      · rw [if_pos e2] at h2 ⊢; exact lex_trans h1 h2
      · rw [if_neg e2] at h2 ⊢; exact h2
    · rw [if_neg e1] at h1
      by_cases e2 : y = z
      · subst e2; rw [if_neg e1]; exact h1
      · rw [if_neg e2] at h2
        by_cases e3 : x = z
        · subst e3
          split at h1 <;> split at h2 <;> omega
        · rw [if_neg e3]
          split at h1 <;> split at h2 <;> split <;> omega

theorem cmpR_lex (a b : ByteArray) : cmpR a b = lex ((bytesL a).map rk) ((bytesL b).map rk) := cmpL_lex _ _ (bytesL_lt a) (bytesL_lt b)

theorem bytesL_inj {a b : ByteArray} (h : bytesL a = bytesL b) : a = b := by
  have hs : a.size = b.size := by rw [← bytesL_length a, h, bytesL_length]
  apply ByteArray.ext
  apply Array.ext
  · exact hs
  · intro i h1 h2
    have e : (bytesL a)[i]? = (bytesL b)[i]? := by rw [h]
    have i1 : i < a.size := h1
    have i2 : i < b.size := h2
    simp only [bytesL, List.getElem?_map, List.getElem?_range i1, List.getElem?_range i2, Option.map_some, byteAt_eq i1, byteAt_eq i2] at e
    injection e with e
    exact UInt8.toNat_inj.1 e

theorem map_rk_inj : ∀ {a b : List Nat}, (∀ c ∈ a, c < 256) → (∀ c ∈ b, c < 256) → a.map rk = b.map rk → a = b
  | [], [], _, _, _ => rfl
  | [], _ :: _, _, _, h => by simp at h
  | _ :: _, [], _, _, h => by simp at h
  | x :: a, y :: b, ha, hb, h => by
    simp only [List.map_cons, List.cons.injEq] at h
    rw [rk_inj (ha x (by simp)) (hb y (by simp)) h.1, map_rk_inj (fun c hc => ha c (by simp [hc])) (fun c hc => hb c (by simp [hc])) h.2]

theorem cmpR_eq {a b : ByteArray} (h : cmpR a b = 0) : a = b := by
  rw [cmpR_lex] at h
  exact bytesL_inj (map_rk_inj (bytesL_lt a) (bytesL_lt b) (lex_eq h))
theorem cmpR_self (a : ByteArray) : cmpR a a = 0 := by rw [cmpR_lex]; exact lex_self _
theorem cmpR_neg (a b : ByteArray) : cmpR b a = - cmpR a b := by rw [cmpR_lex, cmpR_lex]; exact lex_neg _ _
theorem cmpR_trans {a b c : ByteArray} (h1 : cmpR a b < 0) (h2 : cmpR b c < 0) : cmpR a c < 0 := by rw [cmpR_lex] at *; exact lex_trans h1 h2
end Utf

namespace Tree

/-- the texts in their order -/
def sortK (ks : List ByteArray) : List ByteArray := ks.mergeSort fun a b => !decide (Utf.cmpR b a < 0)

theorem sortK_perm (ks : List ByteArray) : (sortK ks).Perm ks := List.mergeSort_perm _ _

theorem sortK_length (ks : List ByteArray) : (sortK ks).length = ks.length := (sortK_perm ks).length_eq

theorem sortK_mem {ks : List ByteArray} {s : ByteArray} : s ∈ sortK ks ↔ s ∈ ks := (sortK_perm ks).mem_iff

/-- where a key stands -/
def place (ks : List ByteArray) (s : ByteArray) : Nat := ks.findIdx fun t => decide (t = s)

theorem place_lt {ks : List ByteArray} {s : ByteArray} (h : s ∈ ks) : place ks s < ks.length := List.findIdx_lt_length_of_exists ⟨s, h, by simp⟩

theorem place_get {ks : List ByteArray} {s : ByteArray} (h : s ∈ ks) : ks[place ks s]? = some s := by
  have hl := place_lt h
  rw [List.getElem?_eq_getElem hl]
  have := List.findIdx_getElem (xs := ks) (p := fun t => decide (t = s)) (w := hl)
  simp only [decide_eq_true_eq] at this
  exact congrArg some this

theorem place_self {ks : List ByteArray} (hnd : ks.Nodup) (i : Nat) (hi : i < ks.length) : place ks ks[i] = i := by
  have h1 := place_get (ks := ks) (s := ks[i]) (List.getElem_mem hi)
  have h2 : ks[i]? = some ks[i] := List.getElem?_eq_getElem hi
  exact ((List.getElem?_inj hi hnd).1 (h2.trans h1.symm)).symm

/-- the values in the order of their keys -/
def objL (ks : List ByteArray) (l : List Tr) : List Tr := (sortK ks).map fun s => l.getD (place ks s) .null

def objT (ks : List ByteArray) (l : List Tr) : Tr := .obj (sortK ks) (objL ks l)

theorem objL_length (ks : List ByteArray) (l : List Tr) : (objL ks l).length = ks.length := by unfold objL; rw [List.length_map, sortK_length]

theorem objL_get {ks : List ByteArray} {l : List Tr} (hl : ks.length = l.length) {i : Nat} {s : ByteArray} (h : (sortK ks)[i]? = some s) : ∃ t, l[place ks s]? = some t ∧ (objL ks l)[i]? = some t := by
  have hm : s ∈ ks := sortK_mem.1 (List.mem_of_getElem? h)
  have hp := place_lt hm
  refine ⟨l[place ks s]'(by omega), List.getElem?_eq_getElem (by omega), ?_⟩
  unfold objL
  rw [List.getElem?_map, h, Option.map_some, List.getD_eq_getElem?_getD, List.getElem?_eq_getElem (by omega)]
  rfl

theorem objL_perm {ks : List ByteArray} {l : List Tr} (hnd : ks.Nodup) (hl : ks.length = l.length) : (objL ks l).Perm l := by
  have h1 : (objL ks l).Perm (ks.map fun s => l.getD (place ks s) .null) := (sortK_perm ks).map _
  have h2 : (ks.map fun s => l.getD (place ks s) .null) = l := by
    apply List.ext_getElem
    · rw [List.length_map, hl]
    · intro i a b
      rw [List.getElem_map, place_self hnd i (by simpa using a), List.getD_eq_getElem?_getD, List.getElem?_eq_getElem b]
      rfl
  rwa [h2] at h1

theorem Sz.add_comm (a b : Sz) : a.add b = b.add a := by unfold Sz.add; rw [Nat.add_comm, Nat.add_comm a.bytes, Nat.max_comm]

theorem szL_perm {a b : List Tr} (h : a.Perm b) : szL a = szL b := by
  induction h with
  | nil => rfl
  | cons x _ ih => simp only [szL, ih]
  | swap x y l =>
    simp only [szL]
    rw [← Sz.add_assoc, ← Sz.add_assoc, Sz.add_comm (szT y)]
  | trans _ _ h1 h2 => exact h1.trans h2

theorem bytesOf_perm {a b : List ByteArray} (h : a.Perm b) : bytesOf a = bytesOf b := by
  unfold bytesOf
  exact (h.map _).sum_nat

theorem szT_objT {ks : List ByteArray} {l : List Tr} (hnd : ks.Nodup) (hl : ks.length = l.length) : szT (objT ks l) = (szL l).over (bytesOf ks) := by
  unfold objT
  rw [szT, szL_perm (objL_perm hnd hl), bytesOf_perm (sortK_perm ks)]
end Tree

namespace Tree

section
variable {α : Type} (k : α → ByteArray)

def leK (a b : α) : Bool := !decide (Utf.cmpR (k b) (k a) < 0)

def srt (l : List α) : List α := l.mergeSort (leK k)

theorem leK_iff {a b : α} : leK k a b = true ↔ Utf.cmpR (k a) (k b) ≤ 0 := by
  unfold leK
  rw [Utf.cmpR_neg (k a) (k b)]
  simp

theorem leK_total (a b : α) : (leK k a b || leK k b a) = true := by
  rw [Bool.or_eq_true, leK_iff, leK_iff, Utf.cmpR_neg (k a) (k b)]; omega

theorem leK_trans (a b c : α) (h1 : leK k a b = true) (h2 : leK k b c = true) : leK k a c = true := by
  rw [leK_iff] at h1 h2 ⊢
  by_cases e1 : Utf.cmpR (k a) (k b) = 0
  · rw [Utf.cmpR_eq e1]; exact h2
  · by_cases e2 : Utf.cmpR (k b) (k c) = 0
    · rw [← Utf.cmpR_eq e2]; exact h1
    · exact Int.le_of_lt (Utf.cmpR_trans (b := k b) (by omega) (by omega))

theorem leK_eq {a b : α} (h1 : leK k a b = true) (h2 : leK k b a = true) : k a = k b := by
  rw [leK_iff] at *
  rw [Utf.cmpR_neg (k a) (k b)] at h2
  exact Utf.cmpR_eq (by omega)

theorem sorted_unique : ∀ {l m : List α}, l.Perm m → l.Pairwise (fun a b => leK k a b = true) → m.Pairwise (fun a b => leK k a b = true) → (∀ a ∈ l, ∀ b ∈ l, k a = k b → a = b) → l = m
  | [], m, hp, _, _, _ => by have := hp.length_eq; cases m with | nil => rfl | cons _ _ => simp at this
  | x :: t, [], hp, _, _, _ => by have := hp.length_eq; simp at this
  | x :: t, y :: u, hp, h1, h2, hi => by
    have hx : x ∈ y :: u := hp.mem_iff.1 (by simp)
    have hy : y ∈ x :: t := hp.mem_iff.2 (by simp)
    have hxy : x = y := by
      rcases List.mem_cons.1 hx with h | h
      · exact h
      · rcases List.mem_cons.1 hy with h' | h'
        · exact h'.symm
        · have a1 := (List.pairwise_cons.1 h1).1 y h'
          have a2 := (List.pairwise_cons.1 h2).1 x h
          exact hi x (by simp) y hy (leK_eq k a1 a2)
    subst hxy
    rw [sorted_unique (hp.cons_inv) (List.pairwise_cons.1 h1).2 (List.pairwise_cons.1 h2).2 (fun a ha b hb => hi a (by simp [ha]) b (by simp [hb]))]

theorem srt_perm (l : List α) : (srt k l).Perm l := List.mergeSort_perm _ _
theorem srt_pairwise (l : List α) : (srt k l).Pairwise (fun a b => leK k a b = true) := List.pairwise_mergeSort (leK_trans k) (leK_total k) l
theorem srt_length (l : List α) : (srt k l).length = l.length := (srt_perm k l).length_eq
theorem srt_mem {l : List α} {x : α} : x ∈ srt k l ↔ x ∈ l := (srt_perm k l).mem_iff

theorem srt_merge (l m : List α) (hi : ∀ a ∈ l ++ m, ∀ b ∈ l ++ m, k a = k b → a = b) : List.merge (srt k l) (srt k m) (leK k) = srt k (l ++ m) := by
  have hp : (List.merge (srt k l) (srt k m) (leK k)).Perm (l ++ m) := (List.merge_perm_append (leK k)).trans ((srt_perm k l).append (srt_perm k m))
  refine sorted_unique k (hp.trans (srt_perm k (l ++ m)).symm) ?_ (srt_pairwise k _) fun a ha b hb => hi a (hp.mem_iff.1 ha) b (hp.mem_iff.1 hb)
  exact List.pairwise_merge (leK_trans k) (leK_total k) _ _ (srt_pairwise k l) (srt_pairwise k m)

theorem srt_nil : srt k [] = [] := by unfold srt; exact List.mergeSort_nil
theorem srt_one (x : α) : srt k [x] = [x] := by unfold srt; exact List.mergeSort_singleton x

theorem merge_nil_r (l : List α) : List.merge l [] (leK k) = l := by cases l <;> simp [List.merge]
theorem merge_nil_l (l : List α) : List.merge [] l (leK k) = l := by simp [List.merge]
theorem merge_left {a b : α} {l m : List α} (h : Utf.cmpR (k a) (k b) ≤ 0) : List.merge (a :: l) (b :: m) (leK k) = a :: List.merge l (b :: m) (leK k) := by
  rw [List.merge, if_pos ((leK_iff k).2 h)]
theorem merge_right {a b : α} {l m : List α} (h : ¬ Utf.cmpR (k a) (k b) ≤ 0) : List.merge (a :: l) (b :: m) (leK k) = b :: List.merge (a :: l) m (leK k) := by
  rw [List.merge, if_neg (fun g => h ((leK_iff k).1 g))]
end

theorem sortK_srt (ks : List ByteArray) : sortK ks = srt (fun s => s) ks := rfl

theorem sortK_halves (l m : List ByteArray) : List.merge (sortK l) (sortK m) (leK fun s => s) = sortK (l ++ m) := srt_merge (fun s => s) l m (fun _ _ _ _ h => h)

/-- two alike stand side by side in the rising order -/
theorem sorted_dup {l : List ByteArray} (hs : l.Pairwise (fun a b => leK (fun s => s) a b = true)) : l.Nodup ↔ ∀ i s, l[i]? = some s → l[i + 1]? ≠ some s := by
  constructor
  · intro hn i s h1 h2
    obtain ⟨a1, a2⟩ := List.getElem?_eq_some_iff.1 h1
    obtain ⟨b1, b2⟩ := List.getElem?_eq_some_iff.1 h2
    have := (List.getElem?_inj a1 hn).1 (h1.trans h2.symm)
    omega
  · induction l with
    | nil => intro _; exact List.nodup_nil
    | cons x t ih =>
      intro h
      refine List.nodup_cons.2 ⟨fun hx => ?_, ih (List.pairwise_cons.1 hs).2 fun i s h1 h2 => h (i + 1) s (by simpa using h1) (by simpa using h2)⟩
      cases t with
      | nil => cases hx
      | cons y u =>
        rcases List.mem_cons.1 hx with e | hx'
        · exact h 0 x rfl (by rw [e]; rfl)
        · have a1 := (List.pairwise_cons.1 hs).1 y (by simp)
          have a2 := (List.pairwise_cons.1 (List.pairwise_cons.1 hs).2).1 x hx'
          have := leK_eq (fun s => s) a1 a2
          exact h 0 x rfl (by have e : x = y := this; rw [e]; rfl)

theorem nodup_sortK (ks : List ByteArray) : (sortK ks).Nodup ↔ ks.Nodup := (sortK_perm ks).nodup_iff
end Tree

/- MEMORY: rows of members (a key and a value), and their order. PLAIN: the rising order of members gives the object of the keys and values. PLAIN: what a step does to a row of values; no program in sight. PLAIN: what steps make; how they lie in memory. WALKS: the program's layer 10: a step that is refused. WALKS: the program's layer 10: a step of null, of a flag. WALKS: the program's layer 10: a step of a list. -/
import Derived.Test.YtfdhgakalojahaaGreatDoorM33
import Derived.Test.YtfdhgakalojahaaGreatDoorM35
import Derived.Deep.RegionLaw
import Derived.Test.YtfdhgakalojahaaGreatDoorM30
import Derived.Test.YtfdhgakalojahaaGreatDoorM23
import Derived.Test.YtfdhgakalojahaaGreatDoorM28
set_option linter.unusedSimpArgs false
set_option linter.unusedVariables false
set_option linter.unnecessarySimpa false
set_option linter.unusedSectionVars false
namespace Go.Proofs.YtfdhgakalojahaaGreatDoor
open Go Go.RowKit Tree

def zMem : Value := .agg #[.string ⟨#[]⟩, .int .i64 0, .bool false, .int .u64 0, .string ⟨#[]⟩, .slice none 0 0, .slice none 0 0]
theorem info_mem : (Tryz.prog.info? 191).map (fun i => (i.zero, i.size, i.bytes)) = some (some zMem, 7, 104) := by kernel_rfl
def zVal : Value := .agg #[.int .i64 0, .bool false, .int .u64 0, .string ⟨#[]⟩, .slice none 0 0, .slice none 0 0]
theorem info_valz : (Tryz.prog.info? 42).map (fun i => (i.zero, i.size, i.bytes)) = some (some zVal, 6, 88) := by kernel_rfl
theorem info_mems : (Tryz.prog.info? 191).map (·.size) = some 7 := by kernel_rfl

abbrev Mem := ByteArray × List Value

def memC (p : Mem) : List Value := .string p.1 :: p.2
def mems (l : List Mem) : List Value := l.flatMap memC

/-- a member's form -/
def MemOK (p : Mem) : Prop :=
  KeyOK p.1 ∧ ∃ (so : Int) (fl : Bool) (bi : Int) (tx : ByteArray) (la : Option Addr) (ln lc : Nat) (ka : Option Addr) (kn kc : Nat), p.2 = vC so fl bi tx (.slice la ln lc) (.slice ka kn kc)

theorem MemOK.length {p : Mem} (h : MemOK p) : (memC p).length = 7 := by
  obtain ⟨_, _, _, _, _, _, _, _, _, _, _, h⟩ := h
  unfold memC; rw [h]; rfl

theorem mems_cons (p : Mem) (l : List Mem) : mems (p :: l) = memC p ++ mems l := by simp [mems]
theorem mems_append (l m : List Mem) : mems (l ++ m) = mems l ++ mems m := by simp [mems]
theorem mems_length {l : List Mem} (h : ∀ p ∈ l, MemOK p) : (mems l).length = l.length * 7 := by
  induction l with
  | nil => rfl
  | cons p l ih => rw [mems_cons, List.length_append, ih fun q hq => h q (by simp [hq]), (h p (by simp)).length, List.length_cons]; omega

theorem mems_take {l : List Mem} (h : ∀ p ∈ l, MemOK p) (k : Nat) : (mems l).take (k * 7) = mems (l.take k) := by
  induction l generalizing k with
  | nil => simp [mems]
  | cons p l ih =>
    cases k with
    | zero => simp [mems]
    | succ k =>
      rw [mems_cons, List.take_succ_cons, mems_cons, List.take_append, (h p (by simp)).length, List.take_of_length_le (by rw [(h p (by simp)).length]; omega), show (k + 1) * 7 - 7 = k * 7 from by omega,
        ih fun q hq => h q (by simp [hq])]

theorem mems_drop {l : List Mem} (h : ∀ p ∈ l, MemOK p) (k : Nat) : (mems l).drop (k * 7) = mems (l.drop k) := by
  induction l generalizing k with
  | nil => simp [mems]
  | cons p l ih =>
    cases k with
    | zero => simp
    | succ k =>
      rw [mems_cons, List.drop_succ_cons, List.drop_append, (h p (by simp)).length, List.drop_of_length_le (by rw [(h p (by simp)).length]; omega), show (k + 1) * 7 - 7 = k * 7 from by omega,
        ih fun q hq => h q (by simp [hq]), List.nil_append]

theorem LstK.capLe {w : World} {a : Option Addr} {n m cap sz : Nat} {e : TypeId} {vs : List Value} (h : LstK w (.slice a n cap) e sz m vs) : n = m ∧ m ≤ cap := by
  rcases h.2 with ⟨h1, h2⟩ | ⟨g, cap', cur, hv, _, _, h3, _⟩
  · injection h1; omega
  · injection hv; omega

theorem LstK.rowC {w : World} {sv : Value} {e : TypeId} {sz n : Nat} {xs : List Value} (h : LstK w sv e sz n xs) (hl : xs.length = n * sz) : RowC w sv sz n xs := by
  obtain ⟨a, c, rfl, hne⟩ := h.form
  have hc := h.capLe
  refine ⟨a, c, rfl, hc.2, hl, fun i v hv => ?_⟩
  obtain ⟨g, rfl⟩ := hne (by
    rcases Nat.eq_zero_or_pos n with h0 | h0
    · have := (List.getElem?_eq_some_iff.1 hv).1
      rw [hl, h0] at this; omega
    · exact h0)
  exact ⟨g, 0, rfl, by rw [Nat.zero_add]; exact h.cell rfl i v hv⟩
end Go.Proofs.YtfdhgakalojahaaGreatDoor

namespace Go.Proofs.YtfdhgakalojahaaGreatDoor
open Go Go.RowKit Tree

theorem srt_zip_fst {ks : List ByteArray} {cl : List (List Value)} (hl : ks.length = cl.length) : (srt Prod.fst (ks.zip cl)).map Prod.fst = sortK ks := by
  have hz : (ks.zip cl).map Prod.fst = ks := List.map_fst_zip (Nat.le_of_eq hl)
  have hp : ((srt Prod.fst (ks.zip cl)).map Prod.fst).Perm ks := by
    have := (srt_perm Prod.fst (ks.zip cl)).map Prod.fst
    rwa [hz] at this
  refine sorted_unique (fun s => s) (hp.trans (sortK_perm ks).symm) ?_ (srt_pairwise (fun s => s) ks) (fun _ _ _ _ h => h)
  rw [List.pairwise_map]
  exact srt_pairwise Prod.fst (ks.zip cl)

theorem srt_zip_get {ks : List ByteArray} {cl : List (List Value)} (hnd : ks.Nodup) (hl : ks.length = cl.length) {i : Nat} {s : ByteArray} (h : (sortK ks)[i]? = some s) :
    ∃ c, cl[place ks s]? = some c ∧ (srt Prod.fst (ks.zip cl))[i]? = some (s, c) := by
  rw [← srt_zip_fst hl, List.getElem?_map] at h
  obtain ⟨p, hp, rfl⟩ := Option.map_eq_some_iff.1 h
  have hm : p ∈ ks.zip cl := (srt_mem Prod.fst).1 (List.mem_of_getElem? hp)
  obtain ⟨j, hj⟩ := List.mem_iff_getElem?.1 hm
  obtain ⟨h1, h2⟩ := List.getElem?_zip_eq_some.1 hj
  obtain ⟨b1, b2⟩ := List.getElem?_eq_some_iff.1 h1
  have := place_self hnd j b1
  rw [b2] at this
  exact ⟨p.2, by rw [this]; exact h2, hp⟩

theorem ValsAt.chunks {w : World} {F : Nat → Prop} : ∀ {l : List Tr} {xs : List Value}, ValsAt w F l xs → ∃ cl : List (List Value), xs = cl.flatten ∧ cl.length = l.length ∧ ∀ (i : Nat) (t : Tr) (c : List Value), l[i]? = some t → cl[i]? = some c → ValAt w F t c
  | [], xs, h => ⟨[], by simpa [ValsAt] using h, rfl, fun i t c h1 _ => by simp at h1⟩
  | t :: l, xs, h => by
    simp only [ValsAt] at h
    obtain ⟨c, r, rfl, h2, h3⟩ := h
    obtain ⟨cl, rfl, k2, k3⟩ := ValsAt.chunks h3
    refine ⟨c :: cl, rfl, by simp [k2], fun i u d h1 h4 => ?_⟩
    cases i with
    | zero => simp at h1 h4; subst h1; subst h4; exact h2
    | succ i => exact k3 i u d (by simpa using h1) (by simpa using h4)

theorem ValsAt.ofChunks {w : World} {F : Nat → Prop} : ∀ {l : List Tr} {cl : List (List Value)}, cl.length = l.length → (∀ (i : Nat) (t : Tr) (c : List Value), l[i]? = some t → cl[i]? = some c → ValAt w F t c) → ValsAt w F l cl.flatten
  | [], cl, hl, _ => by
    have : cl = [] := List.eq_nil_of_length_eq_zero hl
    subst this
    simp [ValsAt]
  | t :: l, [], hl, _ => by simp at hl
  | t :: l, c :: cl, hl, h => by
    simp only [ValsAt]
    exact ⟨c, cl.flatten, rfl, h 0 t c rfl rfl, ValsAt.ofChunks (by simpa using hl) fun i u d h1 h2 => h (i + 1) u d (by simpa using h1) (by simpa using h2)⟩

theorem ValAt.mem {w : World} {F : Nat → Prop} {t : Tr} {c : List Value} (h : ValAt w F t c) {s : ByteArray} (hs : KeyOK s) : MemOK (s, c) := by
  obtain ⟨la, lc, ka, kc, xs, h, _⟩ := h.uni
  exact ⟨hs, _, _, _, _, _, _, _, _, _, _, h⟩

theorem mems_snd (l : List Mem) : (l.map Prod.snd).flatten = l.flatMap Prod.snd := by simp [List.flatMap]

/-- 'append(s, x)' of one element of several cells, at a step of a region that draws its order -/
theorem step_appendK {P : Program} {ops : Array Oper} {o : Oper} {a : Act} {K : Act → World → Prop} {Q : Exit → Act → World → Prop} {E : Prop} {w : World} (hgd : o.guard = none) (s x : Operand) (t : TypeId)
    (ho : o.op = .call { callee := .builtin .append, args := #[s, x], argTypes := #[t, t] })
    (e : TypeId) (z : Value) (sz bytes : Nat) (hsz : 0 < sz) (ht : P.underlying t = some (.slice e)) (hinfo : (P.info? e).map (fun i => (i.zero, i.size, i.bytes)) = some (some z, sz, bytes)) (hzs : z.cells.size = sz)
    (sv : Value) (n : Nat) (xs : List Value) (hs : a.eval s = sv) (hown : LstK w sv e sz n xs)
    (B : Nat) (us : List Value) (hx : a.eval x = .slice (some ⟨B, 0, none⟩) 1 1) (hul : us.length = sz) (hu : ∀ j v, us[j]? = some v → w.cell? ⟨B, j, none⟩ = some v) (hu1 : ∀ u ∈ us, u.oneCell' = true) (hn : (n + 1) * bytes ≤ 140737488355328) (hn' : n ≤ 140737488355328)
    (h : ∀ g cap w', LstK w' (.slice (some ⟨g, 0, none⟩) (n + 1) cap) e sz (n + 1) (xs ++ us) → Chg w w' sv.ownBlock.toList → (sv.ownBlock = some g ∨ g = w.heap.size) →
      K (a.put o.dst (.slice (some ⟨g, 0, none⟩) (n + 1) cap)) w') :
    if Region.wanted o (yielded ops a.tmps) = true then Oper.wp P o a w K Q else E := by
  obtain ⟨i, hi, hz, hsz', hby⟩ := info_parts hinfo
  have hnews : ∀ j v, us[j]? = some v → w.cell? ((⟨B, 0, none⟩ : Addr).add j) = some v := fun j v hv => by
    rw [show (⟨B, 0, none⟩ : Addr).add j = ⟨B, j, none⟩ from by unfold Addr.add; split <;> simp_all]
    exact hu j v hv
  obtain ⟨g, cap, w', hr, h1, h2, h3, h4⟩ := run_append_lies (P := P) w t o.type 0 e i z sz bytes ht hi hz hsz' hby hzs hsz sv n xs hown ⟨B, 0, none⟩ 1 1 us (by rw [hul, Nat.one_mul]) hnews hu1 (by decide) (by unfold maxLen; omega) hn (Nat.zero_le _) _ rfl
  have hw : Region.wanted o (yielded ops a.tmps) = true := by simp [Region.wanted, hgd]
  rw [if_pos hw]
  unfold Oper.wp execOp
  simp only [ho, resolve, invoke, builtin, Sem.run_bind, Sem.run_pure, Result.andThen_ok, List.map_toArray, List.map_cons, List.map_nil, hs, hx, hr]
  exact (h g cap w' h1 ⟨h2.os, h2.tape, h2.output, h2.size, run_drawn _ _ _ _ hr, fun k hk hn => h2.block k hk fun he => hn (by rw [← he]; simp)⟩ h3)
end Go.Proofs.YtfdhgakalojahaaGreatDoor

namespace Go.Proofs.YtfdhgakalojahaaGreatDoor
open Go Go.RowKit Tree

structure StepI where
  sort : Int
  flag : Bool
  bits : Nat
  text : ByteArray
  count : Int
  keys : List ByteArray

def okS (s : StepI) : Bool :=
  usedB s.sort s.flag s.bits s.text s.count s.keys.length && (!decide (s.sort = 3) || Fl.finB s.bits) && (Utf.rightB s.text && s.keys.all Utf.rightB) && decide s.keys.Nodup

def nOf (s : StepI) : Nat := s.count.toNat + s.keys.length

def treeOf (s : StepI) (taken : List Tr) : Tr :=
  if s.sort = 1 then .null else if s.sort = 2 then .flag s.flag else if s.sort = 3 then .num (normB s.bits) else if s.sort = 4 then .text s.text else if s.sort = 5 then .list taken else objT s.keys taken

/-- what the step makes of the last values -/
def madeOf (s : StepI) (l : List Tr) : Tr := treeOf s (l.drop (l.length - nOf s))

def fitS (s : StepI) (l : List Tr) : Bool := okS s && decide (nOf s ≤ l.length) && (szT (madeOf s l)).within

def doT (l : List Tr) (s : StepI) : List Tr := l.take (l.length - nOf s) ++ [madeOf s l]

/-- bounds of what comes in -/
structure StepB (s : StepI) : Prop where
  bits : s.bits < 18446744073709551616
  text : s.text.size ≤ 2147483648
  keys : s.keys.length ≤ 2147483648
  size : ∀ k ∈ s.keys, k.size ≤ 2147483648
  sum : bytesOf s.keys ≤ 4294967296
  count : -9223372036854775808 ≤ s.count ∧ s.count ≤ 9223372036854775807

theorem okS_iff {s : StepI} : okS s = true ↔ usedB s.sort s.flag s.bits s.text s.count s.keys.length = true ∧ (s.sort = 3 → Fl.finB s.bits = true) ∧ Utf.rightB s.text = true ∧ s.keys.all Utf.rightB = true ∧ s.keys.Nodup := by
  unfold okS
  simp only [Bool.and_eq_true, Bool.or_eq_true, Bool.not_eq_true', decide_eq_true_eq, decide_eq_false_iff_not]
  constructor
  · rintro ⟨⟨⟨h1, h2⟩, h3, h4⟩, h5⟩
    exact ⟨h1, fun h => h2.resolve_left (fun g => g h), h3, h4, h5⟩
  · rintro ⟨h1, h2, h3, h4, h5⟩
    refine ⟨⟨⟨h1, ?_⟩, h3, h4⟩, h5⟩
    by_cases h : s.sort = 3
    · exact .inr (h2 h)
    · exact .inl h

theorem used_iff {s : StepI} (h : usedB s.sort s.flag s.bits s.text s.count s.keys.length = true) :
    1 ≤ s.sort ∧ s.sort ≤ 6 ∧ 0 ≤ s.count ∧ (s.flag = true → s.sort = 2) ∧ (s.bits ≠ 0 → s.sort = 3) ∧ (s.text ≠ noB → s.sort = 4) ∧ (s.count ≠ 0 → s.sort = 5) ∧ (s.keys ≠ [] → s.sort = 6) := by
  unfold usedB at h
  simp only [Bool.and_eq_true, Bool.or_eq_true, decide_eq_true_eq, Bool.not_eq_true'] at h
  obtain ⟨⟨⟨⟨⟨⟨⟨h1, h2⟩, h3⟩, h4⟩, h5⟩, h6⟩, h7⟩, h8⟩ := h
  refine ⟨h1, h2, h3, fun g => h4.resolve_left (by simp [g]), fun g => h5.resolve_left g, fun g => h6.resolve_left fun e => g ?_, fun g => h7.resolve_left g, fun g => h8.resolve_left fun e => g (List.eq_nil_of_length_eq_zero e)⟩
  rw [ByteArray.toList_eq] at e
  exact ByteArray.ext (Array.toList_inj.1 e)

theorem Fits.append {l m : List Tr} (h : Fits l) (k : Fits m) : Fits (l ++ m) := fun t ht => (List.mem_append.1 ht).elim (h t) (k t)
theorem fits_doT {l : List Tr} {s : StepI} (hl : Fits l) (h : fitS s l = true) : Fits (doT l s) := by
  unfold fitS at h
  simp only [Bool.and_eq_true] at h
  exact Fits.append (hl.take _) fun t ht => by simp at ht; subst ht; exact h.2

theorem doT_length {l : List Tr} {s : StepI} : (doT l s).length ≤ l.length + 1 := by
  unfold doT; simp
end Go.Proofs.YtfdhgakalojahaaGreatDoor

namespace Go.Proofs.YtfdhgakalojahaaGreatDoor
open Go Go.RowKit Tree

/-- a step's cells -/
def stepI (s : StepI) (sk : Value) : List Value := [.int .i64 s.sort, .bool s.flag, .int .u64 s.bits, .string s.text, .int .i64 s.count, sk]

/-- steps as they lie in memory -/
def StepsR (w : World) : List StepI → List Value → Prop
  | [], xs => xs = []
  | s :: l, xs => ∃ sk r, xs = stepI s sk ++ r ∧ RowC w sk 1 s.keys.length (strs s.keys) ∧ StepsR w l r

theorem StepsR.kept {w w' : World} (hc : Chg w w' []) : ∀ {l : List StepI} {xs : List Value}, StepsR w l xs → StepsR w' l xs
  | [], _, h => h
  | s :: l, _, ⟨sk, r, h1, h2, h3⟩ => ⟨sk, r, h1, h2.kept hc, h3.kept hc⟩

theorem StepsR.length {w : World} : ∀ {l : List StepI} {xs : List Value}, StepsR w l xs → xs.length = l.length * 6
  | [], _, h => by unfold StepsR at h; subst h; rfl
  | s :: l, _, ⟨sk, r, h1, _, h3⟩ => by subst h1; have := h3.length; simp [stepI]; omega

theorem StepsR.append {w : World} : ∀ {l m : List StepI} {xs ys : List Value}, StepsR w l xs → StepsR w m ys → StepsR w (l ++ m) (xs ++ ys)
  | [], _, _, _, h, k => by unfold StepsR at h; subst h; exact k
  | s :: l, _, _, _, ⟨sk, r, h1, h2, h3⟩, k => ⟨sk, r ++ _, by rw [h1, List.append_assoc], h2, h3.append k⟩

theorem StepsR.get {w : World} : ∀ {l : List StepI} {xs : List Value}, StepsR w l xs → ∀ (i : Nat) (s : StepI), l[i]? = some s → ∃ sk, RowC w sk 1 s.keys.length (strs s.keys) ∧ ∀ j v, (stepI s sk)[j]? = some v → xs[i * 6 + j]? = some v
  | [], _, _, i, s, hs => by simp at hs
  | s0 :: l, _, ⟨sk, r, h1, h2, h3⟩, i, s, hs => by
    subst h1
    cases i with
    | zero =>
      simp at hs; subst hs
      refine ⟨sk, h2, fun j v hv => ?_⟩
      have hj : j < (stepI s0 sk).length := (List.getElem?_eq_some_iff.1 hv).1
      rw [Nat.zero_mul, Nat.zero_add, List.getElem?_append_left hj, hv]
    | succ i =>
      obtain ⟨sk', k2, k3⟩ := h3.get i s (by simpa using hs)
      refine ⟨sk', k2, fun j v hv => ?_⟩
      rw [List.getElem?_append_right (by simp [stepI]; omega), ← k3 j v hv]
      congr 1
      simp [stepI]; omega

/-- the row behind the steps -/
def runT : List Tr → List StepI → Option (List Tr)
  | row, [] => some row
  | row, s :: l => if fitS s row = true then runT (doT row s) l else none

def buildT (l : List StepI) : Option Tr := match runT [] l with
  | some [t] => some t
  | _ => none

/-- the first k steps, done -/
theorem runT_take {row : List Tr} {l : List StepI} {k : Nat} : runT row l = (match runT row (l.take k) with | some r => runT r (l.drop k) | none => none) := by
  induction l generalizing row k with
  | nil => simp [runT]
  | cons s l ih =>
    cases k with
    | zero => simp [runT]
    | succ k =>
      simp only [List.take_succ_cons, List.drop_succ_cons, runT]
      split
      · exact ih
      · rfl

theorem runT_succ {row r : List Tr} {l : List StepI} {k : Nat} {s : StepI} (h : runT row (l.take k) = some r) (hs : l[k]? = some s) : runT row (l.take (k + 1)) = if fitS s r = true then some (doT r s) else none := by
  have h1 := runT_take (row := row) (l := l.take (k + 1)) (k := k)
  rw [List.take_take, Nat.min_eq_left (Nat.le_succ k), h] at h1
  simp only at h1
  rw [h1]
  have : (l.take (k + 1)).drop k = [s] := by
    rw [List.take_add_one, hs, List.drop_append]
    have hl : (l.take k).length = k := by rw [List.length_take]; have := (List.getElem?_eq_some_iff.1 hs).1; omega
    rw [List.drop_of_length_le (by omega), hl]; simp
  rw [this]
  simp [runT]

theorem runT_none {row r : List Tr} {l : List StepI} {k : Nat} {s : StepI} (h : runT row (l.take k) = some r) (hs : l[k]? = some s) (hf : fitS s r = false) : runT row l = none := by
  have h1 := runT_take (row := row) (l := l) (k := k + 1)
  rw [runT_succ h hs, hf] at h1
  simpa using h1

theorem runT_facts {l : List StepI} : ∀ {row r : List Tr}, Fits row → runT row l = some r → Fits r ∧ r.length ≤ row.length + l.length := by
  induction l with
  | nil => intro row r hf h; simp [runT] at h; subst h; exact ⟨hf, by simp⟩
  | cons s l ih =>
    intro row r hf h
    simp only [runT] at h
    split at h
    · rename_i hs
      obtain ⟨h1, h2⟩ := ih (fits_doT hf hs) h
      have := doT_length (l := row) (s := s)
      exact ⟨h1, by simp only [List.length_cons]; omega⟩
    · cases h
end Go.Proofs.YtfdhgakalojahaaGreatDoor

namespace Go.Proofs.YtfdhgakalojahaaGreatDoor
open Go Go.RowKit Tree

/-- the deferred function catches the panic -/
theorem do_caught (w w1 : World) (a : Act) (n : Int) (B : Nat) (hd : a.defers = [{ target := .fn (.func 69) #[.pointer (some ⟨B, 0, none⟩)], args := #[] }]) (h4 : a.tmps.getD 4 undef = .pointer (some ⟨B, 0, none⟩))
    (hB : Blk w1 B [.nilIface] 29) (hg : Chg w w1 []) (hw : w.heap.size ≤ B) :
    bodyPostD Tryz.prog Tryz.f41 (NoPost w) (.panic [{ v := .iface 34 (.int .i64 n), recovered := false }]) a w1 := by
  show Leaves _ _ a.tmps _ a.defers (.panicking _) w1
  rw [hd]
  refine leaves_cons (f := 69) (args := #[.pointer (some ⟨B, 0, none⟩)]) (by simp) (by simp [go_sem]) ?_
  refine (catch_panicking ⟨B, 0, none⟩ .nilIface n w1 (hB.cell 0) (hB.frozen 0)).mono ?_
  rintro e u' w'' ⟨rfl, rfl, rfl⟩
  have c := (hB.set 0 (.iface 34 (.int .i64 n))).cell 0
  simp only [List.set_cons_zero, List.getElem?_cons_zero] at c
  refine ⟨.iface 34 (.int .i64 n), ?_, ⟨n, rfl⟩, hg.setCell _ _ (by simp only; omega)⟩
  have h4' : a.tmps[4]?.getD undef = .pointer (some ⟨B, 0, none⟩) := by simpa using h4
  simp [results, Tryz.results41, go_sem, h4', c]

set_option maxRecDepth 100000 in
set_option maxHeartbeats 2000000 in
theorem node_do_unused (b : Nat) (s : StepI) (ka : Option Addr) (kn kc : Nat) (w : World) (hu : usedB s.sort s.flag s.bits s.text s.count kn = false) :
    Calls Tryz.prog 41 #[.pointer (some ⟨b, 0, none⟩), StpV s.sort s.flag s.bits s.text s.count (.slice ka kn kc)] w (NoPost w) := by
  have hmf : ∀ (fn : Fn) (first cap : Array Value) (w : World), (Instr.makeFunc fn first cap).run Tryz.prog w = .ok (.func fn first cap) w := fun _ _ _ _ => rfl
  have HU := Lib.hid hu
  have HS0 := Lib.hid ((Blk.new w [.int .i64 s.sort, .bool s.flag, .int .u64 s.bits, .string s.text, .int .i64 s.count, .slice ka kn kc] 48).alloc (.cells #[.nilIface] 29))
  have HE0 := Lib.hid (Blk.new1 w (.cells [.int .i64 s.sort, .bool s.flag, .int .u64 s.bits, .string s.text, .int .i64 s.count, .slice ka kn kc].toArray 48) [.nilIface] 29)
  clear hu
  go_enter_defers Tryz.func41, Tryz.ntmps41
  unfold StpV
  go_wp2_with (first
    | (go_at_call 71; refine (node_used s.sort s.flag s.bits s.text s.count ka kn kc _).mono ?_; rintro e w1 ⟨rfl, hg1⟩; rw [HU.out]; have HS1 := Lib.hid (HS0.out.kept hg1 (by simp)); have HE1 := Lib.hid (HE0.out.kept hg1 (by simp)); obtain ⟨s1a, s1b, s10, s11, s12, s13, s14, s15⟩ := Blk.cells6 HS1.out; obtain ⟨e1a, e1b, e10⟩ := Blk.cells1 HE1.out)
    | (go_at_call 70; refine (node_refuse_no _ _).mono ?_; rintro e w3 ⟨rfl, rfl⟩))
  exact do_caught w w1 _ _ (w.heap.size + 1) rfl rfl HE1.out ((((Chg.refl w []).alloc _).alloc _).trans hg1) (by omega)
end Go.Proofs.YtfdhgakalojahaaGreatDoor

namespace Go.Proofs.YtfdhgakalojahaaGreatDoor
open Go Go.RowKit Tree

set_option maxRecDepth 100000 in
set_option maxHeartbeats 2000000 in
theorem node_do_null_ok (F : Nat → Prop) (T : TypeId) (b : Nat) (sv : Value) (l : List Tr) (vs : List Value) (keys : Value) (w : World) (hM : MkAt w F T b sv l vs)
    (hk : ∃ ka kc, keys = .slice ka 0 kc) (hl : l.length ≤ 2147483648) :
    Calls Tryz.prog 41 #[.pointer (some ⟨b, 0, none⟩), StpV 1 false 0 ⟨#[]⟩ 0 keys] w (DoPost F T b sv (l ++ [.null]) w) := by
  obtain ⟨ka, kc, rfl⟩ := hk
  have hmf : ∀ (fn : Fn) (first cap : Array Value) (w : World), (Instr.makeFunc fn first cap).run Tryz.prog w = .ok (.func fn first cap) w := fun _ _ _ _ => rfl
  have hu : usedB 1 false 0 ⟨#[]⟩ 0 0 = true := by unfold usedB; simp
  have hw : (szT .null).within = true := rfl
  have HMk := Lib.hid hM
  have HU := Lib.hid hu
  have HW := Lib.hid hw
  have HS0 := Lib.hid ((Blk.new w [.int .i64 1, .bool false, .int .u64 0, .string ⟨#[]⟩, .int .i64 0, .slice ka 0 kc] 48).alloc (.cells #[.nilIface] 29))
  have HE0 := Lib.hid (Blk.new1 w (.cells [.int .i64 1, .bool false, .int .u64 0, .string ⟨#[]⟩, .int .i64 0, .slice ka 0 kc].toArray 48) [.nilIface] 29)
  have hb := hM.blk.lt
  clear hM hu hw
  go_enter_defers Tryz.func41, Tryz.ntmps41
  unfold StpV
  go_wp2_with (first
    | (go_at_call 71; refine (node_used 1 false 0 ⟨#[]⟩ 0 ka 0 kc _).mono ?_; rintro e w1 ⟨rfl, hg1⟩; rw [HU.out]; have HS1 := Lib.hid (HS0.out.kept hg1 (by simp)); have HE1 := Lib.hid (HE0.out.kept hg1 (by simp)); obtain ⟨s1a, s1b, s10, s11, s12, s13, s14, s15⟩ := Blk.cells6 HS1.out; obtain ⟨e1a, e1b, e10⟩ := Blk.cells1 HE1.out)
    | (go_at_call 70; refine (node_refuse_ok _ _).mono ?_; rintro e w3 ⟨rfl, rfl⟩)
    | (go_at_call 72; go_loud (have hM2 := Lib.hid (HMk.out.kept ((((Chg.refl w []).alloc _).alloc _).trans hg1)); refine (node_put_ok F T .null _ b sv l vs _ hM2.out (by simp only [ItemAt]) HW.out hl).mono ?_; rintro e w4 ⟨rfl, hP⟩; have HP := Lib.hid hP; clear hP; have HE4 := Lib.hid (HE1.out.kept HP.out.chg (HMk.out.newNotIn (w.heap.size + 1) (by omega))); obtain ⟨e4a, e4b, e40⟩ := Blk.cells1 HE4.out)))
  refine leaves_cons (f := 69) (args := #[.pointer (some ⟨w.heap.size + 1, 0, none⟩)]) (by simp) (by simp [go_sem]) ?_
  refine (catch_idle ⟨w.heap.size + 1, 0, none⟩ _).mono ?_
  rintro e u' w'' ⟨rfl, rfl, rfl⟩
  have e50 : (w4.setCell ⟨w.heap.size + 1, 0, none⟩ .nilIface).cell? ⟨w.heap.size + 1, 0, none⟩ = some .nilIface := (HE4.out.set 0 _).cell 0
  simp [Leaves, settle, results, Tryz.results41, go_sem, e50]
  exact DoPost.done ((((Chg.refl w []).alloc _).alloc _).trans hg1) HP.out (fun _ h => h) (fun _ h _ => h) hb (fun g hg => HMk.out.lst.lt hg) _ (by omega) e1a (fun hf => by have := HMk.out.lt _ hf; omega) _

set_option maxRecDepth 100000 in
set_option maxHeartbeats 2000000 in
theorem node_do_flag_ok (F : Nat → Prop) (T : TypeId) (b : Nat) (sv : Value) (l : List Tr) (vs : List Value) (fl : Bool) (keys : Value) (w : World) (hM : MkAt w F T b sv l vs)
    (hk : ∃ ka kc, keys = .slice ka 0 kc) (hl : l.length ≤ 2147483648) :
    Calls Tryz.prog 41 #[.pointer (some ⟨b, 0, none⟩), StpV 2 fl 0 ⟨#[]⟩ 0 keys] w (DoPost F T b sv (l ++ [.flag fl]) w) := by
  obtain ⟨ka, kc, rfl⟩ := hk
  have hmf : ∀ (fn : Fn) (first cap : Array Value) (w : World), (Instr.makeFunc fn first cap).run Tryz.prog w = .ok (.func fn first cap) w := fun _ _ _ _ => rfl
  have hu : usedB 2 fl 0 ⟨#[]⟩ 0 0 = true := by unfold usedB; simp
  have hw : (szT (.flag fl)).within = true := rfl
  have HMk := Lib.hid hM
  have HU := Lib.hid hu
  have HW := Lib.hid hw
  have HS0 := Lib.hid ((Blk.new w [.int .i64 2, .bool fl, .int .u64 0, .string ⟨#[]⟩, .int .i64 0, .slice ka 0 kc] 48).alloc (.cells #[.nilIface] 29))
  have HE0 := Lib.hid (Blk.new1 w (.cells [.int .i64 2, .bool fl, .int .u64 0, .string ⟨#[]⟩, .int .i64 0, .slice ka 0 kc].toArray 48) [.nilIface] 29)
  have hb := hM.blk.lt
  clear hM hu hw
  go_enter_defers Tryz.func41, Tryz.ntmps41
  unfold StpV
  go_wp2_with (first
    | (go_at_call 71; refine (node_used 2 fl 0 ⟨#[]⟩ 0 ka 0 kc _).mono ?_; rintro e w1 ⟨rfl, hg1⟩; rw [HU.out]; have HS1 := Lib.hid (HS0.out.kept hg1 (by simp)); have HE1 := Lib.hid (HE0.out.kept hg1 (by simp)); obtain ⟨s1a, s1b, s10, s11, s12, s13, s14, s15⟩ := Blk.cells6 HS1.out; obtain ⟨e1a, e1b, e10⟩ := Blk.cells1 HE1.out)
    | (go_at_call 70; refine (node_refuse_ok _ _).mono ?_; rintro e w3 ⟨rfl, rfl⟩)
    | (go_at_call 72; go_loud (have hM2 := Lib.hid (HMk.out.kept ((((Chg.refl w []).alloc _).alloc _).trans hg1)); refine (node_put_ok F T (.flag fl) _ b sv l vs _ hM2.out (by simp only [ItemAt]) HW.out hl).mono ?_; rintro e w4 ⟨rfl, hP⟩; have HP := Lib.hid hP; clear hP; have HE4 := Lib.hid (HE1.out.kept HP.out.chg (HMk.out.newNotIn (w.heap.size + 1) (by omega))); obtain ⟨e4a, e4b, e40⟩ := Blk.cells1 HE4.out)))
  refine leaves_cons (f := 69) (args := #[.pointer (some ⟨w.heap.size + 1, 0, none⟩)]) (by simp) (by simp [go_sem]) ?_
  refine (catch_idle ⟨w.heap.size + 1, 0, none⟩ _).mono ?_
  rintro e u' w'' ⟨rfl, rfl, rfl⟩
  have e50 : (w4.setCell ⟨w.heap.size + 1, 0, none⟩ .nilIface).cell? ⟨w.heap.size + 1, 0, none⟩ = some .nilIface := (HE4.out.set 0 _).cell 0
  simp [Leaves, settle, results, Tryz.results41, go_sem, e50]
  exact DoPost.done ((((Chg.refl w []).alloc _).alloc _).trans hg1) HP.out (fun _ h => h) (fun _ h _ => h) hb (fun g hg => HMk.out.lst.lt hg) _ (by omega) e1a (fun hf => by have := HMk.out.lt _ hf; omega) _
end Go.Proofs.YtfdhgakalojahaaGreatDoor

namespace Go.Proofs.YtfdhgakalojahaaGreatDoor
open Go Go.RowKit Tree

/-- the row behind a step of a list, or none -/
def ListPost (F : Nat → Prop) (T : TypeId) (b : Nat) (sv : Value) (l : List Tr) (n : Nat) (w : World) (e : Ending) (w' : World) : Prop :=
  if (szT (.list (l.drop (l.length - n)))).within = true then DoPost F T b sv (l.take (l.length - n) ++ [.list (l.drop (l.length - n))]) w e w' else NoPost w e w'

theorem ListPost.yes {F : Nat → Prop} {T : TypeId} {b : Nat} {sv : Value} {l : List Tr} {n : Nat} {w : World} (h : (szT (.list (l.drop (l.length - n)))).within = true) : ListPost F T b sv l n w = DoPost F T b sv (l.take (l.length - n) ++ [.list (l.drop (l.length - n))]) w := by
  funext e w'; unfold ListPost; rw [if_pos h]
theorem ListPost.no {F : Nat → Prop} {T : TypeId} {b : Nat} {sv : Value} {l : List Tr} {n : Nat} {w : World} (h : ¬ (szT (.list (l.drop (l.length - n)))).within = true) : ListPost F T b sv l n w = NoPost w := by
  funext e w'; unfold ListPost; rw [if_neg h]

set_option maxRecDepth 100000 in
set_option maxHeartbeats 4000000 in
theorem node_do_list (F : Nat → Prop) (T : TypeId) (b : Nat) (sv : Value) (l : List Tr) (vs : List Value) (n : Nat) (keys : Value) (w : World) (hM : MkAt w F T b sv l vs)
    (hk : ∃ ka kc, keys = .slice ka 0 kc) (hF : Fits l) (hn : n ≤ l.length) (hl : l.length ≤ 65536) :
    Calls Tryz.prog 41 #[.pointer (some ⟨b, 0, none⟩), StpV 5 false 0 ⟨#[]⟩ n keys] w (ListPost F T b sv l n w) := by
  obtain ⟨ka, kc, rfl⟩ := hk
  have hmf : ∀ (fn : Fn) (first cap : Array Value) (w : World), (Instr.makeFunc fn first cap).run Tryz.prog w = .ok (.func fn first cap) w := fun _ _ _ _ => rfl
  have hu : usedB 5 false 0 ⟨#[]⟩ n 0 = true := by unfold usedB; simp
  have hvl := hM.items.length
  have HDL : Hid ((vs.drop (vs.length - n)).length = n) := by unfold Hid; rw [List.length_drop]; omega
  obtain ⟨S, hS⟩ : ∃ S, (szL (l.drop (vs.length - n))).over 0 = S := ⟨_, rfl⟩
  have HSz := Lib.hid hS
  have HMk := Lib.hid hM
  have HU := Lib.hid hu
  have HFit := Lib.hid hF
  have HVL := Lib.hid hvl
  have HS0 := Lib.hid ((Blk.new w [.int .i64 5, .bool false, .int .u64 0, .string ⟨#[]⟩, .int .i64 n, .slice ka 0 kc] 48).alloc (.cells #[.nilIface] 29))
  have HE0 := Lib.hid (Blk.new1 w (.cells [.int .i64 5, .bool false, .int .u64 0, .string ⟨#[]⟩, .int .i64 n, .slice ka 0 kc].toArray 48) [.nilIface] 29)
  have hb := hM.blk.lt
  obtain ⟨s1, s2, s3⟩ := S
  clear hM hu hF hvl hS
  go_enter_defers Tryz.func41, Tryz.ntmps41
  unfold StpV
  go_wp2_with (first
    | (go_at_call 71; refine (node_used 5 false 0 ⟨#[]⟩ n ka 0 kc _).mono ?_; rintro e w1 ⟨rfl, hg1⟩; rw [HU.out]; have HS1 := Lib.hid (HS0.out.kept hg1 (by simp)); have HE1 := Lib.hid (HE0.out.kept hg1 (by simp)); obtain ⟨s1a, s1b, s10, s11, s12, s13, s14, s15⟩ := Blk.cells6 HS1.out; obtain ⟨e1a, e1b, e10⟩ := Blk.cells1 HE1.out; have HG1 := Lib.hid ((((Chg.refl w []).alloc (.cells [.int .i64 5, .bool false, .int .u64 0, .string ⟨#[]⟩, .int .i64 n, .slice ka 0 kc].toArray 48)).alloc (.cells #[.nilIface] 29)).trans hg1); have hz1 : w.heap.size + 2 ≤ w1.heap.size := (by have := hg1.size; simpa using this); clear hg1)
    | (go_at_call 70; refine (node_refuse_ok _ _).mono ?_; rintro e w3 ⟨rfl, rfl⟩)
    | (go_at_call 76; go_loud (have HM1 := Lib.hid (HMk.out.kept HG1.out); refine (node_take_ok F T b sv l vs _ HM1.out n hn (by omega)).mono ?_; rintro e w5 ⟨v5, rfl, hv5a, hv5b, hv5c⟩; obtain ⟨a5, c5, rfl, _⟩ := hv5a.form; rw [HDL.out] at hv5a hv5b ⊢; have HV5 := Lib.hid hv5a; have HO5 := Lib.hid hv5b; have HC5 := Lib.hid hv5c; clear hv5a hv5b hv5c))
    | (go_at_call 78; go_loud (
        refine (node_summed (fun k => F k ∨ (Value.slice a5 n c5).ownBlock = some k) (.slice a5 n c5) (l.drop (vs.length - n)) (vs.drop (vs.length - n)) 0 w5 (HV5.out.rowAt fun g hg => .inr hg)
          ((HM1.out.items.kept (HC5.out.keepsF HM1.out.lt (by simp)) (fun _ h => .inl h)).drop _) (by
            rintro k (hk | hk)
            · exact Nat.lt_of_lt_of_le (HM1.out.lt k hk) HC5.out.size
            · exact HV5.out.lt hk) (HFit.out.drop _) (by simp; omega) (by omega)).mono ?_
        rintro e w6 ⟨rfl, hg6⟩; rw [HSz.out]; unfold szV; have HG6 := Lib.hid hg6; clear hg6)))
  obtain ⟨w7, hw7⟩ : ∃ x, x = w6.alloc (.cells #[.int .i64 s1, .int .i64 s2, .int .i64 s3, .slice a5 n c5] 154) := ⟨_, rfl⟩
  rw [← hw7]
  have HO7 : Blk w7 w6.heap.size [.int .i64 s1, .int .i64 s2, .int .i64 s3, .slice a5 n c5] 154 := by rw [hw7]; exact Blk.new w6 _ _
  have hg57 : Chg w5 w7 [] := by rw [hw7]; exact HG6.out.alloc _
  have hg17 : Chg w1 w7 [] := HC5.out.trans hg57
  have hgw7 : Chg w w7 [] := HG1.out.trans hg17
  have hz6 : w1.heap.size ≤ w6.heap.size := (HC5.out.trans HG6.out).size
  have hz7 : w6.heap.size < w7.heap.size := HO7.lt
  obtain ⟨F', hF'⟩ : ∃ F' : Nat → Prop, F' = fun k => F k ∨ (w1.heap.size ≤ k ∧ k < w7.heap.size) := ⟨_, rfl⟩
  have hM' : MkAt w7 F' T b sv l vs := by
    subst hF'
    refine HM1.out.grown hg17 (fun k hk => .inl hk) (fun k hk => hk.imp_right And.left) (fun k hk => ?_)
    rcases hk with hk | hk
    · have := HM1.out.lt k hk; have := hg17.size; omega
    · exact hk.2
  have hwe : l.drop (l.length - n) = l.drop (vs.length - n) := by rw [HVL.out]
  have hszT : szT (.list (l.drop (vs.length - n))) = ⟨s1, s2, s3⟩ := by
    show (szL (l.drop (vs.length - n))).over 0 = _
    exact HSz.out
  have hit : ItemAt w7 F' (.list (l.drop (l.length - n))) (.iface 149 (.pointer (some ⟨w6.heap.size, 0, none⟩))) := by
    rw [hwe]
    simp only [ItemAt]
    rw [hszT]
    have hv7 := HV5.out.kept hg57 (by simp)
    refine ⟨w6.heap.size, .slice a5 n c5, vs.drop (vs.length - n), rfl, by rw [hF']; exact .inr ⟨hz6, hz7⟩, HO7.cell 0, HO7.cell 1, HO7.cell 2, HO7.cell 3, hv7.rowAt fun g hg => ?_, hM'.items.drop _⟩
    rw [hF']
    exact .inr ⟨HO5.out g hg, hv7.lt hg⟩
  have HE7 := HE1.out.kept hg17 (by simp)
  have HE7' := Lib.hid HE7
  have HM7 := Lib.hid hM'
  have HIT := Lib.hid hit
  have HGW7 := Lib.hid hgw7
  have HG17 := Lib.hid hg17
  have HF' := Lib.hid hF'
  obtain ⟨e7a, e7b, e70⟩ := Blk.cells1 HE7
  clear hw7 HO7 hg57 hg17 hgw7 hM' hwe hszT hit HE7 hF'
  by_cases hwi : (szT (.list (l.drop (l.length - n)))).within = true
  · refine (node_group_ok F' T _ _ b sv l vs n _ HM7.out HIT.out hwi hn (by omega)).mono ?_
    rintro e w9 ⟨rfl, hP⟩
    have HP := Lib.hid hP
    have HE9 := Lib.hid (HE7'.out.kept hP.chg (fun hm => by
      simp only [List.mem_cons, Option.mem_toList] at hm
      rcases hm with hm | hm
      · omega
      · have := HMk.out.lst.lt hm; omega))
    obtain ⟨e4a, e4b, e40⟩ := Blk.cells1 HE9.out
    clear hP
    go_wp2_with fail
    refine leaves_cons (f := 69) (args := #[.pointer (some ⟨w.heap.size + 1, 0, none⟩)]) (by simp) (by simp [go_sem]) ?_
    refine (catch_idle ⟨w.heap.size + 1, 0, none⟩ _).mono ?_
    rintro e u' w'' ⟨rfl, rfl, rfl⟩
    have e50 : (w9.setCell ⟨w.heap.size + 1, 0, none⟩ .nilIface).cell? ⟨w.heap.size + 1, 0, none⟩ = some .nilIface := (HE9.out.set 0 _).cell 0
    simp [Leaves, settle, results, Tryz.results41, go_sem, e50]
    rw [ListPost.yes hwi]
    refine DoPost.done HGW7.out HP.out (fun k hk => by rw [HF'.out]; exact .inl hk) (fun k hk hlt => ?_) hb (fun g hg => HMk.out.lst.lt hg) _ (by omega) e7a (fun hf => ?_) _
    · rw [HF'.out] at hk
      rcases hk with hk | hk
      · exact hk
      · omega
    · rw [HF'.out] at hf
      rcases hf with hk | hk
      · have := HMk.out.lt _ hk; omega
      · omega
  · rw [ListPost.no hwi]
    have hwi' : (szT (.list (l.drop (l.length - n)))).within = false := by simpa using hwi
    refine (node_group_no F' _ _ b n _ HIT.out hwi').mono ?_
    rintro e w9 ⟨rfl, hg9⟩
    have HE9 := Lib.hid (HE7'.out.kept hg9 (by simp))
    have HG9 := Lib.hid hg9
    clear hg9
    go_wp2_with fail
    exact do_caught w w9 _ _ (w.heap.size + 1) rfl rfl HE9.out (HGW7.out.trans HG9.out) (by omega)
end Go.Proofs.YtfdhgakalojahaaGreatDoor

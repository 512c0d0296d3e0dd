/- WALKS: slices.Clone at one-cell elements. WALKS: the program's layer 10: a row of values. WALKS: the program's layer 10: take, group. WALKS: the program's layer 10: summed. WALKS: the program's layer 10: group. -/
import Derived.Test.YtfdhgakalojahaaGreatDoorRows
import Derived.WalkLawsBesides
import Derived.Deep.Light
import Derived.Test.YtfdhgakalojahaaGreatDoorM07
import Derived.Test.YtfdhgakalojahaaGreatDoorM05
import Derived.Test.YtfdhgakalojahaaGreatDoorM06
import Derived.Deep.RegionHeld3
import Derived.Deep.RegionLaw
set_option linter.unusedSimpArgs false
set_option linter.unusedVariables false
set_option linter.unnecessarySimpa false
set_option linter.unusedSectionVars false
namespace Go.Proofs.YtfdhgakalojahaaGreatDoor
open Go Go.RowKit

def zstr : Value := .string ⟨#[]⟩

theorem info_item : (Tryz.prog.info? 72).map (fun i => (i.zero, i.size, i.bytes)) = some (some .nilIface, 1, 16) := by kernel_rfl
theorem info_string : (Tryz.prog.info? 9).map (fun i => (i.zero, i.size, i.bytes)) = some (some zstr, 1, 16) := by kernel_rfl
theorem info_byte : (Tryz.prog.info? 5).map (fun i => (i.zero, i.size, i.bytes)) = some (some (.int .u8 0), 1, 1) := by kernel_rfl

theorem add_lit (b o j : Nat) : (⟨b, o, none⟩ : Addr).add j = ⟨b, o + j, none⟩ := by
  unfold Addr.add; split
  · simp_all
  · rfl

/-- what a clone is -/
def ClonePost (w : World) (e : TypeId) (vs : List Value) (r : Ending) (w' : World) : Prop :=
  ∃ v, r = .returned v ∧ Lst w' v e vs ∧ (∀ g, v.ownBlock = some g → w.heap.size ≤ g) ∧ Chg w w' []

theorem ClonePost.own {w w1 w2 : World} {e : TypeId} {vs : List Value} {v : Value} (h : w2.ownsRow w.heap.size e 1 v vs.length vs) (h1 : Chg w w1 []) (hg : w1.grownBy w2 (some w.heap.size)) (hd : w1.drawn ≤ w2.drawn) : ClonePost w e vs (.returned v) w2 := by
  refine ⟨v, rfl, ?_, fun g hgv => (World.ownsRow.lt h g hgv).1, h1.grown hg hd fun k hk hlt => ?_⟩
  · obtain ⟨a, b⟩ := h
    refine ⟨a, ?_⟩
    rcases b with b | ⟨g, cap, cur, b1, _, b2⟩
    · exact .inl b
    · exact .inr ⟨g, cap, cur, b1, Nat.zero_le _, b2⟩
  · injection hk with hk; subst hk; exact absurd hlt (Nat.lt_irrefl _)

/-- 'append(s[:0:0], x...)' -/
theorem wpList_append_new {P : Program} {ops : Array Oper} {rest : List Oper} {o : Oper} {a : Act} {Q : Exit → Act → World → Prop} {w : World} (hgd : o.guard = none) (s x : Operand) (t : TypeId)
    (ho : o.op = .call { callee := .builtin .append, args := #[s, x], argTypes := #[t, t] })
    (base : Nat) (e : TypeId) (z : Value) (bytes : Nat) (ht : P.underlying t = some (.slice e)) (hinfo : (P.info? e).map (fun i => (i.zero, i.size, i.bytes)) = some (some z, 1, bytes)) (hzs : z.cells.size = 1)
    (v : Value) (hs : a.eval s = v) (hown : w.ownsRow base e 1 v 0 [])
    (ad : Addr) (c : Nat) (news : List Value) (hx : a.eval x = .slice (some ad) news.length c) (hnews : ∀ j u, news[j]? = some u → w.cell? (ad.add j) = some u) (h1 : ∀ u ∈ news, u.oneCell' = true)
    (hm : news.length ≤ 140737488355328) (hbytes : news.length * bytes ≤ 140737488355328) (hbase : base ≤ w.heap.size)
    (h : ∀ v' w', w'.ownsRow base e 1 v' news.length news → w.grownBy w' v.ownBlock → w.drawn ≤ w'.drawn → wpList P ops Q rest (a.put o.dst v') w') : wpList P ops Q (o :: rest) a w := by
  obtain ⟨i, hi, hz, hsz, hby⟩ := info_parts hinfo
  obtain ⟨v', w', hr, h2, h3, _⟩ := run_append_own (P := P) w base t o.type e i z 1 bytes ht hi hz hsz hby hzs (by decide) v 0 [] hown ad news.length c news (by simp) hnews h1 (by unfold maxLen; omega) (by rw [Nat.zero_add]; exact hbytes) hbase
  rw [Nat.zero_add, List.nil_append] at h2
  refine wpList_plain hgd fun K hK => ?_
  unfold Oper.wp execOp
  simp only [ho, resolve, invoke, builtin, Sem.run_bind, Sem.run_pure, Result.andThen_ok, List.map_toArray, List.map_cons, List.map_nil, hs, hx, hr]
  exact hK _ _ (h v' w' h2 h3 (run_drawn _ _ _ _ hr))

set_option maxRecDepth 100000 in
theorem clone_core_item (ad : Addr) (c : Nat) (vs : List Value) (w : World) (hc : ∀ j u, vs[j]? = some u → w.cell? (ad.add j) = some u) (h1 : ∀ u ∈ vs, u.oneCell' = true) (hn : vs.length ≤ 4294967296) :
    Calls Tryz.prog 105 #[.slice (some ad) vs.length c] w (ClonePost w 72 vs) := by
  have hq := fun (wx : World) (a : Option Addr) (n c : Nat) => Lib.run_eql_slice_nil (P := Tryz.prog) wx 95 72 a n c 0 0 Tryz.underlying95
  have H1 := Lib.hid h1
  have HC := Lib.hid hc
  have H0 := Lib.hid (World.ownsRow_made w (e := 72) (size := 1) (base := w.heap.size) #[] 0 (Nat.le_refl _) (by decide) (by simp))
  clear h1 hc
  go_enter Tryz.func105, Tryz.ntmps105
  go_wp2_with (first
    | (at_builtin; refine wpList_append_new rfl _ _ 95 rfl w.heap.size 72 .nilIface 16 Tryz.underlying95 info_item rfl _ rfl H0.out ad c vs rfl ?c1 H1.out ?c3 ?c4 ?c5 ?_))
  case c1 => intro j u hu; exact ((Chg.refl w []).alloc _).keeps (HC.out j u hu)
  case c3 => omega
  case c4 => omega
  case c5 => simp
  intro v' w1 hown hgrow hd
  have HO := Lib.hid hown
  clear hown
  go_wp2
  go_ret
  exact ClonePost.own HO.out ((Chg.refl w []).alloc _) hgrow hd

set_option maxRecDepth 100000 in
theorem clone_item (F : Nat → Prop) (s : Value) (vs : List Value) (w : World) (hs : RowAt w F s vs) (h1 : ∀ u ∈ vs, u.oneCell' = true) (hn : vs.length ≤ 4294967296) :
    Calls Tryz.prog 105 #[s] w (ClonePost w 72 vs) := by
  rcases hs with ⟨rfl, a, c, rfl⟩ | ⟨b, o, c, rfl, _, hc⟩
  · cases a with
    | none =>
      have hq := fun (wx : World) (a : Option Addr) (n c : Nat) => Lib.run_eql_slice_nil (P := Tryz.prog) wx 95 72 a n c 0 0 Tryz.underlying95
      go_enter Tryz.func105, Tryz.ntmps105
      go_wp2
      go_ret
      exact ⟨_, rfl, Lst.nil _ _, fun g hg => (by cases hg), Chg.refl _ _⟩
    | some ad => exact clone_core_item ad c [] w (fun j u hu => by simp at hu) (fun u hu => by simp at hu) (by simp)
  · exact clone_core_item ⟨b, o, none⟩ c vs w (fun j u hu => by rw [add_lit]; exact hc j u hu) h1 hn
set_option maxRecDepth 100000 in
theorem clone_core_string (ad : Addr) (c : Nat) (vs : List Value) (w : World) (hc : ∀ j u, vs[j]? = some u → w.cell? (ad.add j) = some u) (h1 : ∀ u ∈ vs, u.oneCell' = true) (hn : vs.length ≤ 4294967296) :
    Calls Tryz.prog 106 #[.slice (some ad) vs.length c] w (ClonePost w 9 vs) := by
  have hq := fun (wx : World) (a : Option Addr) (n c : Nat) => Lib.run_eql_slice_nil (P := Tryz.prog) wx 40 9 a n c 0 0 Tryz.underlying40
  have H1 := Lib.hid h1
  have HC := Lib.hid hc
  have H0 := Lib.hid (World.ownsRow_made w (e := 9) (size := 1) (base := w.heap.size) #[] 0 (Nat.le_refl _) (by decide) (by simp))
  clear h1 hc
  go_enter Tryz.func106, Tryz.ntmps106
  go_wp2_with (first
    | (at_builtin; refine wpList_append_new rfl _ _ 40 rfl w.heap.size 9 zstr 16 Tryz.underlying40 info_string rfl _ rfl H0.out ad c vs rfl ?c1 H1.out ?c3 ?c4 ?c5 ?_))
  case c1 => intro j u hu; exact ((Chg.refl w []).alloc _).keeps (HC.out j u hu)
  case c3 => omega
  case c4 => omega
  case c5 => simp
  intro v' w1 hown hgrow hd
  have HO := Lib.hid hown
  clear hown
  go_wp2
  go_ret
  exact ClonePost.own HO.out ((Chg.refl w []).alloc _) hgrow hd

set_option maxRecDepth 100000 in
theorem clone_string (F : Nat → Prop) (s : Value) (vs : List Value) (w : World) (hs : RowAt w F s vs) (h1 : ∀ u ∈ vs, u.oneCell' = true) (hn : vs.length ≤ 4294967296) :
    Calls Tryz.prog 106 #[s] w (ClonePost w 9 vs) := by
  rcases hs with ⟨rfl, a, c, rfl⟩ | ⟨b, o, c, rfl, _, hc⟩
  · cases a with
    | none =>
      have hq := fun (wx : World) (a : Option Addr) (n c : Nat) => Lib.run_eql_slice_nil (P := Tryz.prog) wx 40 9 a n c 0 0 Tryz.underlying40
      go_enter Tryz.func106, Tryz.ntmps106
      go_wp2
      go_ret
      exact ⟨_, rfl, Lst.nil _ _, fun g hg => (by cases hg), Chg.refl _ _⟩
    | some ad => exact clone_core_string ad c [] w (fun j u hu => by simp at hu) (fun u hu => by simp at hu) (by simp)
  · exact clone_core_string ⟨b, o, none⟩ c vs w (fun j u hu => by rw [add_lit]; exact hc j u hu) h1 hn
end Go.Proofs.YtfdhgakalojahaaGreatDoor

namespace Go.Proofs.YtfdhgakalojahaaGreatDoor
open Go Go.RowKit Tree

/-- the row of values at block b: its slice sv, its values vs, which are the trees l; F: the blocks of trees -/
structure MkAt (w : World) (F : Nat → Prop) (T : TypeId) (b : Nat) (sv : Value) (l : List Tr) (vs : List Value) : Prop where
  blk : Blk w b [sv] T
  lst : Lst w sv 72 vs
  items : ItemsAt w F l vs
  apart : ¬ F b
  apart' : ∀ g, sv.ownBlock = some g → ¬ F g ∧ g ≠ b
  lt : ∀ k, F k → k < w.heap.size

theorem MkAt.notOwn {w : World} {F : Nat → Prop} {T : TypeId} {b : Nat} {sv : Value} {l : List Tr} {vs : List Value} (h : MkAt w F T b sv l vs) : b ∉ sv.ownBlock.toList :=
  fun hm => (h.apart' b (by simpa using hm)).2 rfl

theorem ItemAt.oneCell {w : World} {F : Nat → Prop} {t : Tr} {v : Value} (h : ItemAt w F t v) : v.oneCell' = true := by
  cases t with
  | null => simp only [ItemAt] at h; subst h; rfl
  | flag b => simp only [ItemAt] at h; subst h; rfl
  | num b => simp only [ItemAt] at h; subst h; rfl
  | text s => simp only [ItemAt] at h; subst h; rfl
  | list l =>
    simp only [ItemAt] at h
    obtain ⟨b, sl, vs, rfl, _⟩ := h
    rfl
  | obj ks l =>
    simp only [ItemAt] at h
    obtain ⟨b, sk, sl, vs, rfl, _⟩ := h
    rfl

theorem ItemsAt.oneCells {w : World} {F : Nat → Prop} : ∀ {l : List Tr} {vs : List Value}, ItemsAt w F l vs → ∀ u ∈ vs, u.oneCell' = true
  | [], _, h => by simp only [ItemsAt] at h; subst h; intro u hu; simp at hu
  | t :: l, vs, h => by
    simp only [ItemsAt] at h
    obtain ⟨v, r, rfl, h2, h3⟩ := h
    intro u hu
    rcases List.mem_cons.1 hu with rfl | hu
    · exact h2.oneCell
    · exact h3.oneCells u hu

theorem ItemAt.iface {w : World} {F : Nat → Prop} {t : Tr} {v : Value} (h : ItemAt w F t v) : ∃ ti x, v = .iface ti x := by
  cases t with
  | null => simp only [ItemAt] at h; exact ⟨_, _, h⟩
  | flag b => simp only [ItemAt] at h; exact ⟨_, _, h⟩
  | num b => simp only [ItemAt] at h; exact ⟨_, _, h⟩
  | text s => simp only [ItemAt] at h; exact ⟨_, _, h⟩
  | list l =>
    simp only [ItemAt] at h
    obtain ⟨b, sl, vs, h, _⟩ := h
    exact ⟨_, _, h⟩
  | obj ks l =>
    simp only [ItemAt] at h
    obtain ⟨b, sk, sl, vs, h, _⟩ := h
    exact ⟨_, _, h⟩

theorem ItemsAt.length {w : World} {F : Nat → Prop} : ∀ {l : List Tr} {vs : List Value}, ItemsAt w F l vs → vs.length = l.length
  | [], _, h => by simp only [ItemsAt] at h; subst h; rfl
  | t :: l, vs, h => by
    simp only [ItemsAt] at h
    obtain ⟨v, r, rfl, _, h3⟩ := h
    simp [h3.length]

theorem ItemsAt.snoc {w : World} {F : Nat → Prop} {t : Tr} {v : Value} (ht : ItemAt w F t v) : ∀ {l : List Tr} {vs : List Value}, ItemsAt w F l vs → ItemsAt w F (l ++ [t]) (vs ++ [v])
  | [], _, h => by
    simp only [ItemsAt] at h; subst h
    simp only [List.nil_append, ItemsAt]
    exact ⟨v, [], rfl, ht, rfl⟩
  | t' :: l, vs, h => by
    simp only [ItemsAt] at h
    obtain ⟨v', r, rfl, h2, h3⟩ := h
    simp only [List.cons_append, ItemsAt]
    exact ⟨v', r ++ [v], rfl, h2, h3.snoc ht⟩

/-- the row behind a call: another slice, other values, of the trees l; nothing but the row has turned -/
def MkPost (F : Nat → Prop) (T : TypeId) (b : Nat) (sv : Value) (l : List Tr) (w w' : World) : Prop :=
  ∃ sv' vs', MkAt w' F T b sv' l vs' ∧ Chg w w' (b :: sv.ownBlock.toList) ∧ ∀ g, sv'.ownBlock = some g → sv.ownBlock = some g ∨ w.heap.size ≤ g

set_option maxRecDepth 100000 in
set_option maxHeartbeats 1000000 in
theorem node_put_no (F : Nat → Prop) (t : Tr) (v : Value) (b : Nat) (w : World) (ht : ItemAt w F t v) (hw : (szT t).within = false) :
    Calls Tryz.prog 72 #[.pointer (some ⟨b, 0, none⟩), v] w fun e w' => e = .panicked [{ v := .iface 34 (.int .i64 3), recovered := false }] ∧ Chg w w' [] := by
  obtain ⟨f, args, hm, hc⟩ := sized_any t v ht
  have HM := Lib.hid hm
  have HW := Lib.hid hw
  have HT := Lib.hid ht
  clear hm hw ht
  go_enter Tryz.func72, Tryz.ntmps72
  go_wp2_with (first
    | (refine wpList_invoke rfl _ _ _ rfl _ rfl f args HM.out _ hc ?_; rintro e w1 ⟨rfl, hg1⟩; refine ⟨_, rfl, ?_⟩; unfold szV)
    | (go_at_call 103; refine (node_within _ _ _ _).mono ?_; rintro e w2 ⟨rfl, hg2⟩; rw [show Sz.within ⟨(szT t).nodes, (szT t).bytes, (szT t).depth⟩ = false from HW.out]))
  exact ⟨rfl, rfl, hg1.trans hg2⟩

theorem MkAt.kept {w w' : World} {F : Nat → Prop} {T : TypeId} {b : Nat} {sv : Value} {l : List Tr} {vs : List Value} (h : MkAt w F T b sv l vs) (hc : Chg w w' []) : MkAt w' F T b sv l vs :=
  ⟨h.blk.kept hc (by simp), h.lst.kept hc (by simp), ItemsAt.kept (hc.keepsF h.lt (by simp)) (fun _ h => h) l vs h.items, h.apart, h.apart', fun k hk => Nat.lt_of_lt_of_le (h.lt k hk) hc.size⟩

theorem MkAt.newNotIn {w : World} {F : Nat → Prop} {T : TypeId} {b : Nat} {sv : Value} {l : List Tr} {vs : List Value} (h : MkAt w F T b sv l vs) (k : Nat) (hk : w.heap.size ≤ k) : k ∉ b :: sv.ownBlock.toList := by
  intro hm
  rcases List.mem_cons.1 hm with rfl | hm
  · have := h.blk.lt; omega
  · have := h.lst.lt (g := k) (by simpa using hm); omega

/-- the row takes an item behind the others: what is left of the walk -/
theorem MkAt.push {w w1 w2 w3 : World} {F : Nat → Prop} {T : TypeId} {b : Nat} {sv : Value} {l m : List Tr} {vs us : List Value} {t : Tr} {v : Value} {g n cap : Nat} (h : MkAt w F T b sv l vs) (h0 : ItemsAt w F m us) (ht : ItemAt w F t v)
    (h1 : Chg w w1 []) (h2 : Lst w2 (.slice (some ⟨g, 0, none⟩) n cap) 72 (us ++ [v])) (h3 : Chg w1 w2 sv.ownBlock.toList) (h4 : sv.ownBlock = some g ∨ w.heap.size ≤ g)
    (h5 : Blk w3 b [.slice (some ⟨g, 0, none⟩) n cap] T) (h6 : Chg w2 w3 [b]) : MkPost F T b sv (m ++ [t]) w w3 := by
  have hc2 : Chg w w2 sv.ownBlock.toList := (h1.none _).trans h3
  have hgb : g ≠ b := by
    rcases h4 with h4 | h4
    · exact (h.apart' g h4).2
    · have := h.blk.lt; omega
  have hgF : ¬ F g := by
    rcases h4 with h4 | h4
    · exact (h.apart' g h4).1
    · intro hf; have := h.lt g hf; omega
  have hc3 : Chg w w3 (b :: sv.ownBlock.toList) := (hc2.mono fun k _ hk => List.mem_cons_of_mem _ hk).step h6 fun i hi _ => by simp at hi; subst hi; simp
  have hk : Keeps F w w3 := hc3.keepsF h.lt fun k hk hf => by
    rcases List.mem_cons.1 hk with rfl | hk
    · exact h.apart hf
    · exact (h.apart' k (by simpa using hk)).1 hf
  refine ⟨_, us ++ [v], ⟨h5, h2.kept h6 fun g' hg' => ?_, ?_, h.apart, fun g' hg' => ?_, fun k hf => Nat.lt_of_lt_of_le (h.lt k hf) hc3.size⟩, hc3, fun g' hg' => ?_⟩
  · simp [Value.ownBlock] at hg'; subst hg'; simpa using hgb
  · exact ItemsAt.snoc (ItemAt.kept hk (fun _ h => h) t v ht) (ItemsAt.kept hk (fun _ h => h) m us h0)
  · simp [Value.ownBlock] at hg'; subst hg'; exact ⟨hgF, hgb⟩
  · simp [Value.ownBlock] at hg'; subst hg'; exact h4

set_option maxRecDepth 100000 in
set_option maxHeartbeats 1000000 in
theorem node_put_ok (F : Nat → Prop) (T : TypeId) (t : Tr) (v : Value) (b : Nat) (sv : Value) (l : List Tr) (vs : List Value) (w : World) (hM : MkAt w F T b sv l vs) (ht : ItemAt w F t v) (hw : (szT t).within = true) (hl : l.length ≤ 2147483648) :
    Calls Tryz.prog 72 #[.pointer (some ⟨b, 0, none⟩), v] w fun e w' => e = .returned (.tuple #[]) ∧ MkPost F T b sv (l ++ [t]) w w' := by
  obtain ⟨ti, x, rfl⟩ := ht.iface
  obtain ⟨f, args, hm, hc⟩ := sized_any t _ ht
  have hvl : vs.length ≤ 2147483648 := by rw [hM.items.length]; exact hl
  have HM := Lib.hid hm
  have HW := Lib.hid hw
  have HT := Lib.hid ht
  have HMk := Lib.hid hM
  have hb := hM.blk.lt
  clear hm hw ht hM
  go_enter Tryz.func72, Tryz.ntmps72
  go_wp2_with (first
    | (refine wpList_invoke rfl _ _ _ rfl _ rfl f args HM.out _ hc ?_; rintro e w1 ⟨rfl, hg1⟩; refine ⟨_, rfl, ?_⟩; unfold szV)
    | (go_at_call 103; refine (node_within _ _ _ _).mono ?_; rintro e w2 ⟨rfl, hg2⟩; rw [show Sz.within ⟨(szT t).nodes, (szT t).bytes, (szT t).depth⟩ = true from HW.out]; have HB := Lib.hid (HMk.out.blk.kept (hg1.trans hg2) (by simp)); have c0 : w2.cell? ⟨b, 0, none⟩ = some sv := HB.out.cell 0; have f0 : ∀ j, w2.frozen? ⟨b, j, none⟩ = false := fun j => HB.out.frozen j; have lb := HB.out.lt)
    | (at_builtin; refine wpList_append1 rfl _ _ _ rfl 72 .nilIface 16 Tryz.underlying95 info_item rfl sv vs rfl (((HMk.out.lst.kept (hg1.trans hg2) (by simp)).kept ((Chg.refl w2 []).alloc _) (by simp))) w2.heap.size (.iface ti x) rfl (by simp) rfl (by omega) (by omega) ?_; intro g cap w3 hL hC hG; have HB3 := Lib.hid ((HB.out.alloc (.cells #[.iface ti x] 72)).kept hC HMk.out.notOwn); have c3 : w3.cell? ⟨b, 0, none⟩ = some sv := HB3.out.cell 0; have f3 : ∀ j, w3.frozen? ⟨b, j, none⟩ = false := fun j => HB3.out.frozen j; have lb3 := HB3.out.lt))
  go_end0
  refine ⟨rfl, HMk.out.push HMk.out.items HT.out ((hg1.trans hg2).alloc _) hL hC ?_ (HB3.out.set 0 _) ((Chg.refl _ _).setCell _ _ (by simp))⟩
  rcases hG with hG | hG
  · exact .inl hG
  · have := (hg1.trans hg2).size; simp at hG; exact .inr (by omega)
end Go.Proofs.YtfdhgakalojahaaGreatDoor

namespace Go.Proofs.YtfdhgakalojahaaGreatDoor
open Go Go.RowKit Tree

theorem Lst.tailAt {w : World} {a : Option Addr} {cap : Nat} {e : TypeId} {vs : List Value} (h : Lst w (.slice a vs.length cap) e vs) (k c : Nat) (hk : k ≤ vs.length) (hc : cap = k) : RowAt w (fun _ => True) (.slice a (vs.length - k) c) (vs.drop k) := by
  have := h.capLe
  have e1 : vs.length - k = 0 := by omega
  exact .inl ⟨List.drop_of_length_le (by omega), a, c, by rw [e1]⟩

theorem Lst.tail {w : World} {a : Option Addr} {cap : Nat} {e : TypeId} {vs : List Value} (h : Lst w (.slice a vs.length cap) e vs) (k c : Nat) (hk : k ≤ vs.length) : RowAt w (fun _ => True) (.slice (Option.map (fun x => x.add k) a) (vs.length - k) c) (vs.drop k) := by
  by_cases he : k = vs.length
  · subst he
    exact .inl ⟨by simp, Option.map (fun x => x.add vs.length) a, c, by simp⟩
  · obtain ⟨a', cap', h1, h2⟩ := h.form
    obtain ⟨g, rfl⟩ := h2 (by rintro rfl; simp at hk he; omega)
    injection h1 with h1; subst h1
    refine .inr ⟨g, k, c, ?_, trivial, fun i v hv => ?_⟩
    · simp [add_lit]
    · rw [List.getElem?_drop] at hv
      exact h.cell rfl _ v hv

set_option maxRecDepth 100000 in
set_option maxHeartbeats 1000000 in
theorem node_take_no (F : Nat → Prop) (T : TypeId) (b : Nat) (sv : Value) (l : List Tr) (vs : List Value) (w : World) (hM : MkAt w F T b sv l vs) (n : Int) (hn : (l.length : Int) < n) :
    Calls Tryz.prog 76 #[.pointer (some ⟨b, 0, none⟩), .int .i64 n] w fun e w' => e = .panicked [{ v := .iface 34 (.int .i64 102), recovered := false }] ∧ Chg w w' [] := by
  obtain ⟨a, cap, rfl, ha⟩ := hM.lst.form
  rw [← hM.items.length] at hn
  have c0 : w.cell? ⟨b, 0, none⟩ = some (.slice a vs.length cap) := hM.blk.cell 0
  clear hM ha
  go_enter Tryz.func76, Tryz.ntmps76
  go_wp2
  exact ⟨rfl, rfl, Chg.refl _ _⟩

set_option maxRecDepth 100000 in
set_option maxHeartbeats 1000000 in
theorem node_take_ok (F : Nat → Prop) (T : TypeId) (b : Nat) (sv : Value) (l : List Tr) (vs : List Value) (w : World) (hM : MkAt w F T b sv l vs) (n : Nat) (hn : n ≤ l.length) (hl : l.length ≤ 2147483648) :
    Calls Tryz.prog 76 #[.pointer (some ⟨b, 0, none⟩), .int .i64 n] w (ClonePost w 72 (vs.drop (vs.length - n))) := by
  obtain ⟨a, cap, rfl, ha⟩ := hM.lst.form
  rw [← hM.items.length] at hn hl
  have HM := Lib.hid hM
  have c0 : w.cell? ⟨b, 0, none⟩ = some (.slice a vs.length cap) := hM.blk.cell 0
  have hcap := hM.lst.capLe.2
  have HL := Lib.hid hM.lst
  have H1 : Hid (∀ u ∈ vs.drop (vs.length - n), u.oneCell' = true) := fun u hu => (hM.items.oneCells u (List.mem_of_mem_drop hu))
  have H2 : Hid ((vs.drop (vs.length - n)).length ≤ 4294967296) := by unfold Hid; rw [List.length_drop]; omega
  clear hM
  go_enter Tryz.func76, Tryz.ntmps76
  by_cases hc : cap = vs.length - n
  · go_wp2_with (first | (go_at_call 105; refine (clone_item (fun _ => True) _ _ _ (HL.out.tailAt (vs.length - n) _ (by omega) hc) H1.out H2.out).mono ?_; rintro e w1 ⟨v, rfl, hv⟩))
    go_ret
    exact ⟨v, rfl, hv⟩
  · go_wp2_with (first | (go_at_call 105; refine (clone_item (fun _ => True) _ _ _ (HL.out.tail (vs.length - n) _ (by omega)) H1.out H2.out).mono ?_; rintro e w1 ⟨v, rfl, hv⟩))
    go_ret
    exact ⟨v, rfl, hv⟩
end Go.Proofs.YtfdhgakalojahaaGreatDoor

namespace Go.Proofs.YtfdhgakalojahaaGreatDoor
open Go Go.RowKit Tree

theorem ItemsAt.lengthEq {w : World} {F : Nat → Prop} {l : List Tr} {vs : List Value} (h : ItemsAt w F l vs) : vs.length = l.length := h.length

set_option maxRecDepth 100000 in
set_option maxHeartbeats 2000000 in
theorem node_summed (F : Nat → Prop) (sl : Value) (l : List Tr) (vs : List Value) (kb : Nat) (w : World) (hs : RowAt w F sl vs) (hi : ItemsAt w F l vs) (hF : ∀ k, F k → k < w.heap.size)
    (hf : Fits l) (hl : l.length ≤ 65536) (hk : kb ≤ 1099511627776) :
    Calls Tryz.prog 78 #[sl, .int .i64 kb] w fun e w' => e = .returned (szV ((szL l).over kb)) ∧ Chg w w' [] := by
  obtain ⟨a, c, rfl, hcell⟩ := hs.cell
  have hvl := hi.length
  have HC := Lib.hid hcell
  have HI := Lib.hid hi
  have HF := Lib.hid hF
  have HFit := Lib.hid hf
  have HVL := Lib.hid hvl
  have hvn : vs.length ≤ 65536 := by omega
  clear hcell hi hF hf hs hvl
  go_enter Tryz.func78, Tryz.ntmps78
  go_wp2_with fail
  go_loopw [13] (fun i wr => ∃ k : Nat, k ≤ vs.length ∧ i = .int .i64 k ∧ Chg w wr [] ∧ Blk wr (w.heap.size + 1) [.int .i64 (1 + (szL (l.take k)).nodes), .int .i64 (kb + (szL (l.take k)).bytes), .int .i64 ((szL (l.take k)).depth)] 151 ∧
      Blk wr w.heap.size [.int .i64 0, .int .i64 0, .int .i64 0] 151)
    (fun i _ => vs.length - (intOf i).toNat)
  case atStart =>
    refine ⟨0, by omega, rfl, by (repeat (first | exact Chg.refl _ _ | with_reducible refine Chg.drewN ?_ _ | with_reducible refine Chg.drew ?_ | with_reducible refine Chg.alloc ?_ _ | with_reducible refine Chg.setCell ?_ _ _ (by simp) | with_reducible refine Chg.setCell ?_ _ _ (by simp; omega))), ?_, ?_⟩
    · have := Blk.new (w.alloc (.cells #[.int .i64 0, .int .i64 0, .int .i64 0] 151)) [.int .i64 1, .int .i64 kb, .int .i64 0] 151
      simpa [szL] using this
    · exact (Blk.new w [.int .i64 0, .int .i64 0, .int .i64 0] 151).alloc _
  case round =>
    obtain ⟨k, hk1, rfl, hg, hB, hB0⟩ := hrel
    have b0 := (HFit.out.take k).sum
    have b1 : (l.take k).length ≤ 65536 := by rw [List.length_take]; omega
    obtain ⟨N, hN⟩ : ∃ N, N = (szL (l.take k)).nodes := ⟨_, rfl⟩
    obtain ⟨M, hM⟩ : ∃ M, M = (szL (l.take k)).bytes := ⟨_, rfl⟩
    obtain ⟨D, hD⟩ : ∃ D, D = (szL (l.take k)).depth := ⟨_, rfl⟩
    rw [← hN, ← hM, ← hD] at hB b0
    have HN := Lib.hid hN
    have HM := Lib.hid hM
    have HD := Lib.hid hD
    clear hN hM hD
    have n1 : N ≤ 4294967296 := by have := b0.1; omega
    have n2 : M ≤ 137438953472 := by have := b0.2.1; omega
    have n3 : D ≤ 512 := b0.2.2
    clear b0
    have lb := hB.lt
    have c0 : wr.cell? ⟨w.heap.size + 1, 0, none⟩ = _ := hB.cell 0
    have c1 : wr.cell? ⟨w.heap.size + 1, 1, none⟩ = _ := hB.cell 1
    have c2 : wr.cell? ⟨w.heap.size + 1, 2, none⟩ = _ := hB.cell 2
    have cf : ∀ j, wr.frozen? ⟨w.heap.size + 1, j, none⟩ = false := fun j => hB.frozen j
    simp only [List.getElem?_cons_zero, List.getElem?_cons_succ] at c0 c1 c2
    have HG := Lib.hid hg
    have HB := Lib.hid hB
    have HB0 := Lib.hid hB0
    clear hg hB hB0
    by_cases hlt : k < vs.length
    · have hkl : k < l.length := by rw [← HVL.out]; exact hlt
      obtain ⟨v, hv, hit⟩ := HI.out.get k l[k] (List.getElem?_eq_getElem hkl)
      obtain ⟨b, o, hab, hFb, hcv⟩ := HC.out k v hv
      subst hab
      have hcv' : wr.cell? ⟨b, o + k, none⟩ = some v := HG.out.keeps hcv
      have hit' : ItemAt wr F l[k] v := ItemAt.kept (HG.out.keepsF HF.out (by simp)) (fun _ h => h) _ _ hit
      obtain ⟨ti, x, rfl⟩ := hit'.iface
      obtain ⟨f, args, hm, hcall⟩ := sized_any _ _ hit'
      have HM1 := Lib.hid hm
      have HV := Lib.hid hv
      have w1 := (within_le (HFit.out l[k] (List.getElem_mem hkl)))
      obtain ⟨S, hS⟩ : ∃ S, S = szT l[k] := ⟨_, rfl⟩
      rw [← hS] at w1 hcall
      obtain ⟨s1, s2, s3⟩ := S
      simp only at w1
      obtain ⟨w1, w2', w3⟩ := w1
      have hnx : szL (l.take (k + 1)) = ⟨N + s1, M + s2, max D s3⟩ := by
        rw [szL_take_succ (List.getElem?_eq_getElem hkl), ← hS]; unfold Sz.add; rw [← HN.out, ← HM.out, ← HD.out]
      have HNX := Lib.hid hnx
      clear hnx
      clear hm hv hit hit' hS hcv
      go_wp2_with (first
        | (refine wpList_invoke rfl _ _ _ rfl _ rfl f args HM1.out _ hcall ?_; rintro e w1 ⟨rfl, hg1⟩; refine ⟨_, rfl, ?_⟩; unfold szV; have HG1 := Lib.hid hg1; have HB1 := Lib.hid (HB.out.kept hg1 (by simp)); have HB01 := Lib.hid (HB0.out.kept hg1 (by simp)); have lb1 := HB1.out.lt; have d0 : w1.cell? ⟨w.heap.size + 1, 0, none⟩ = _ := HB1.out.cell 0; have d1 : w1.cell? ⟨w.heap.size + 1, 1, none⟩ = _ := HB1.out.cell 1; have d2 : w1.cell? ⟨w.heap.size + 1, 2, none⟩ = _ := HB1.out.cell 2; have df : ∀ j, w1.frozen? ⟨w.heap.size + 1, j, none⟩ = false := (fun j => HB1.out.frozen j); simp only [List.getElem?_cons_zero, List.getElem?_cons_succ] at d0 d1 d2; clear hg1))
      go_roundw
      case rel =>
        have G2 := HG.out.trans HG1.out
        refine ⟨k + 1, by omega, by go_num, by (repeat (first | exact G2 | with_reducible refine Chg.drewN ?_ _ | with_reducible refine Chg.drew ?_ | with_reducible refine Chg.alloc ?_ _ | with_reducible refine Chg.setCell ?_ _ _ (by simp) | with_reducible refine Chg.setCell ?_ _ _ (by simp; omega))), ?_, by (apply Blk.eq; (· (repeat (first | exact HB01.out | with_reducible apply Blk.drewN | with_reducible apply Blk.drew | with_reducible apply Blk.alloc | with_reducible apply Blk.set | (with_reducible apply Blk.set_other; rotate_left; (· first | (simp; done) | (simp; omega)))))); rfl)⟩
        apply Blk.eq
        · (repeat (first | exact HB1.out | with_reducible apply Blk.drewN | with_reducible apply Blk.drew | with_reducible apply Blk.alloc | with_reducible apply Blk.set | (with_reducible apply Blk.set_other; rotate_left; (· first | (simp; done) | (simp; omega)))))
        · go_light
          rw [HNX.out]
          simp
          refine ⟨by omega, by omega, ?_⟩
          split <;> omega
      case measure => simp [intOf]; omega
    · have e0 : wr.cell? ⟨w.heap.size, 0, none⟩ = _ := HB0.out.cell 0
      have e1 : wr.cell? ⟨w.heap.size, 1, none⟩ = _ := HB0.out.cell 1
      have e2 : wr.cell? ⟨w.heap.size, 2, none⟩ = _ := HB0.out.cell 2
      have ef : ∀ j, wr.frozen? ⟨w.heap.size, j, none⟩ = false := fun j => HB0.out.frozen j
      have lb0 := HB0.out.lt
      simp only [List.getElem?_cons_zero, List.getElem?_cons_succ] at e0 e1 e2
      go_wp2
      refine bodyPost_ret (v := .agg #[.int .i64 (1 + N), .int .i64 (kb + M), .int .i64 (D + 1)]) (by simp [results, Tryz.results78, go_sem, lb0, e0, e1, e2, c0, c1, c2]) rfl ⟨?_, ?_⟩
      · go_light
        have hkl : l.take k = l := List.take_of_length_le (by rw [← HVL.out]; omega)
        have e1 := HN.out; have e2 := HM.out; have e3 := HD.out
        rw [hkl] at e1 e2 e3
        subst e1; subst e2; subst e3
        unfold szV Sz.over
        simp
      · (repeat (first | exact HG.out | with_reducible refine Chg.drewN ?_ _ | with_reducible refine Chg.drew ?_ | with_reducible refine Chg.alloc ?_ _ | with_reducible refine Chg.setCell ?_ _ _ (by simp) | with_reducible refine Chg.setCell ?_ _ _ (by simp; omega)))
end Go.Proofs.YtfdhgakalojahaaGreatDoor

namespace Go.Proofs.YtfdhgakalojahaaGreatDoor
open Go Go.RowKit Tree

set_option maxRecDepth 100000 in
set_option maxHeartbeats 1000000 in
theorem node_group_no (F : Nat → Prop) (t : Tr) (v : Value) (b : Nat) (n : Int) (w : World) (ht : ItemAt w F t v) (hw : (szT t).within = false) :
    Calls Tryz.prog 77 #[.pointer (some ⟨b, 0, none⟩), .int .i64 n, v] w fun e w' => e = .panicked [{ v := .iface 34 (.int .i64 3), recovered := false }] ∧ Chg w w' [] := by
  obtain ⟨ti, x, rfl⟩ := ht.iface
  obtain ⟨f, args, hm, hc⟩ := sized_any t _ ht
  have HM := Lib.hid hm
  have HW := Lib.hid hw
  clear hm hw ht
  go_enter Tryz.func77, Tryz.ntmps77
  go_wp2_with (first
    | (refine wpList_invoke rfl _ _ _ rfl _ rfl f args HM.out _ hc ?_; rintro e w1 ⟨rfl, hg1⟩; refine ⟨_, rfl, ?_⟩; unfold szV)
    | (go_at_call 103; refine (node_within _ _ _ _).mono ?_; rintro e w2 ⟨rfl, hg2⟩; rw [show Sz.within ⟨(szT t).nodes, (szT t).bytes, (szT t).depth⟩ = false from HW.out])
    | (go_at_call 70; refine (node_refuse_no _ _).mono ?_; rintro e w3 ⟨rfl, rfl⟩))
  exact ⟨rfl, rfl, hg1.trans hg2⟩

set_option maxRecDepth 100000 in
set_option maxHeartbeats 2000000 in
theorem node_group_ok (F : Nat → Prop) (T : TypeId) (t : Tr) (v : Value) (b : Nat) (sv : Value) (l : List Tr) (vs : List Value) (n : Nat) (w : World) (hM : MkAt w F T b sv l vs) (ht : ItemAt w F t v) (hw : (szT t).within = true)
    (hn : n ≤ l.length) (hl : l.length ≤ 2147483648) :
    Calls Tryz.prog 77 #[.pointer (some ⟨b, 0, none⟩), .int .i64 n, v] w fun e w' => e = .returned (.tuple #[]) ∧ MkPost F T b sv (l.take (l.length - n) ++ [t]) w w' := by
  obtain ⟨ti, x, rfl⟩ := ht.iface
  obtain ⟨f, args, hm, hc⟩ := sized_any t _ ht
  obtain ⟨a, cap, rfl, ha⟩ := hM.lst.form
  have hvl := hM.items.length
  have hcap := hM.lst.capLe.2
  rw [← hvl] at hn hl
  have HVL := Lib.hid hvl
  have HP := Lib.hid (hM.lst.pop (vs.length - n) (by omega))
  have HPL : Hid ((vs.take (vs.length - n)).length = vs.length - n) := by unfold Hid; rw [List.length_take]; omega
  have HM := Lib.hid hm
  have HW := Lib.hid hw
  have HT := Lib.hid ht
  have HMk := Lib.hid hM
  have hb := hM.blk.lt
  clear hm hw ht hM hvl ha
  go_enter Tryz.func77, Tryz.ntmps77
  go_wp2_with (first
    | (refine wpList_invoke rfl _ _ _ rfl _ rfl f args HM.out _ hc ?_; rintro e w1 ⟨rfl, hg1⟩; refine ⟨_, rfl, ?_⟩; unfold szV)
    | (go_at_call 103; refine (node_within _ _ _ _).mono ?_; rintro e w2 ⟨rfl, hg2⟩; rw [show Sz.within ⟨(szT t).nodes, (szT t).bytes, (szT t).depth⟩ = true from HW.out])
    | (go_at_call 70; refine (node_refuse_ok _ _).mono ?_; rintro e w3 ⟨rfl, rfl⟩))
  have HB := Lib.hid (HMk.out.blk.kept (hg1.trans hg2) (by simp))
  have c0 : w2.cell? ⟨b, 0, none⟩ = some (.slice a vs.length cap) := HB.out.cell 0
  have f0 : ∀ j, w2.frozen? ⟨b, j, none⟩ = false := fun j => HB.out.frozen j
  have lb := HB.out.lt
  have HL2 := Lib.hid (((HP.out.kept (hg1.trans hg2) (by simp)).kept ((Chg.refl w2 []).alloc (.cells #[.iface ti x] 72)) (by simp)))
  have z1 : IntKind.i64.wrap ((vs.length : Int) - n) = (vs.length : Int) - n := IntWalk.i64_in _ (by omega)
  have z2 : (0 : Int) ≤ (vs.length : Int) - n := by omega
  have z3 : (vs.length : Int) - n ≤ (cap : Int) := by omega
  have z4 : ((vs.length : Int) - n).toNat = vs.length - n := by omega
  have q1 : (vs.length - n + 1) * 16 ≤ 140737488355328 := by omega
  have q2 : vs.length - n ≤ 140737488355328 := by omega
  have hno : b ∉ (Value.slice a (vs.length - n) cap).ownBlock.toList := by have := HMk.out.notOwn; cases a <;> simpa [Value.ownBlock] using this
  go_region_law (first | (refine step_append1 rfl _ _ _ rfl 72 .nilIface 16 Tryz.underlying95 info_item rfl (.slice a (vs.length - n) cap) (vs.take (vs.length - n)) (by rfl) (by exact HL2.out) w2.heap.size (.iface ti x) (by rfl) (by simp) rfl (by rw [HPL.out]; exact q1) (by rw [HPL.out]; exact q2) ?_; rw [HPL.out]; intro g cap' w3 hL hC hG; have HB3 := Lib.hid ((HB.out.alloc (.cells #[.iface ti x] 72)).drew.kept hC hno); have c3 : w3.cell? ⟨b, 0, none⟩ = some (.slice a vs.length cap) := HB3.out.cell 0; have f3 : ∀ j, w3.frozen? ⟨b, j, none⟩ = false := (fun j => HB3.out.frozen j); have lb3 := HB3.out.lt))
  all_goals go_end0
  all_goals
    have hsv : (Value.slice a vs.length cap).ownBlock = (Value.slice a (vs.length - n) cap).ownBlock := by cases a <;> rfl
    refine ⟨rfl, HMk.out.push (m := l.take (l.length - n)) (us := vs.take (vs.length - n)) ?_ HT.out (((hg1.trans hg2).alloc (.cells #[.iface ti x] 72)).drew) hL (by rw [hsv]; exact hC) ?_ (HB3.out.set 0 _) ((Chg.refl _ _).setCell _ _ (by simp))⟩
    · rw [← HVL.out]; exact HMk.out.items.take _
    · rw [hsv]
      rcases hG with hG | hG
      · exact .inl hG
      · have := (hg1.trans hg2).size; simp at hG; exact .inr (by omega)
end Go.Proofs.YtfdhgakalojahaaGreatDoor

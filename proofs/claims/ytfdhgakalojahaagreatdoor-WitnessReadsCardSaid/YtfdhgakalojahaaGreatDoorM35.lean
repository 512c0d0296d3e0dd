/- MEMORY: how a value of the reference's lies in memory. WALKS: the reference's layer 10: a value's steps. WALKS: the reference's layer 10: how great a value is. WALKS: the reference's layer 10: is a value within the limits? -/
import Derived.Test.YtfdhgakalojahaaGreatDoorM30
import Derived.Test.YtfdhgakalojahaaGreatDoorM24
import Derived.BigQuiet
import Derived.Test.YtfdhgakalojahaaGreatDoorM09
set_option linter.unusedSimpArgs false
set_option linter.unusedVariables false
set_option linter.unnecessarySimpa false
set_option linter.unusedSectionVars false
namespace Go.Proofs.YtfdhgakalojahaaGreatDoor
open Go Go.RowKit Tree

/-- cells in a row, in the blocks of F -/
def RowN (w : World) (F : Nat → Prop) (la : Option Addr) (xs : List Value) : Prop := xs = [] ∨ ∃ b o, la = some ⟨b, o, none⟩ ∧ F b ∧ ∀ i v, xs[i]? = some v → w.cell? ⟨b, o + i, none⟩ = some v

mutual
def ValAt (w : World) (F : Nat → Prop) : Tr → List Value → Prop
  | .null, cs => ∃ la lc ka kc, cs = vC 1 false 0 noB (.slice la 0 lc) (.slice ka 0 kc)
  | .flag b, cs => ∃ la lc ka kc, cs = vC 2 b 0 noB (.slice la 0 lc) (.slice ka 0 kc)
  | .num n, cs => ∃ la lc ka kc, cs = vC 3 false n noB (.slice la 0 lc) (.slice ka 0 kc)
  | .text s, cs => ∃ la lc ka kc, cs = vC 4 false 0 s (.slice la 0 lc) (.slice ka 0 kc)
  | .list l, cs => ∃ la lc ka kc xs, cs = vC 5 false 0 noB (.slice la l.length lc) (.slice ka 0 kc) ∧ RowN w F la xs ∧ ValsAt w F l xs
  | .obj ks l, cs => ∃ la lc ka kc xs, cs = vC 6 false 0 noB (.slice la l.length lc) (.slice ka ks.length kc) ∧ ks.length = l.length ∧ RowAt w F (.slice ka ks.length kc) (strs ks) ∧ RowN w F la xs ∧ ValsAt w F l xs
def ValsAt (w : World) (F : Nat → Prop) : List Tr → List Value → Prop
  | [], xs => xs = []
  | t :: l, xs => ∃ c r, xs = c ++ r ∧ ValAt w F t c ∧ ValsAt w F l r
end

theorem RowN.kept {w w' : World} {F G : Nat → Prop} {la : Option Addr} {xs : List Value} (h : RowN w F la xs) (hk : Keeps F w w') (hF : ∀ b, F b → G b) : RowN w' G la xs := by
  rcases h with h | ⟨b, o, h1, h2, h3⟩
  · exact .inl h
  · exact .inr ⟨b, o, h1, hF b h2, fun i v hv => (hk b _ h2).trans (h3 i v hv)⟩

mutual
theorem ValAt.kept {w w' : World} {F G : Nat → Prop} (hk : Keeps F w w') (hF : ∀ b, F b → G b) : ∀ (t : Tr) (v : List Value), ValAt w F t v → ValAt w' G t v
  | .null, _, h => by simp only [ValAt] at h ⊢; exact h
  | .flag _, _, h => by simp only [ValAt] at h ⊢; exact h
  | .num _, _, h => by simp only [ValAt] at h ⊢; exact h
  | .text _, _, h => by simp only [ValAt] at h ⊢; exact h
  | .list l, v, h => by
    simp only [ValAt] at h ⊢
    obtain ⟨la, lc, ka, kc, xs, h1, h2, h3⟩ := h
    exact ⟨la, lc, ka, kc, xs, h1, h2.kept hk hF, ValsAt.kept hk hF l xs h3⟩
  | .obj ks l, v, h => by
    simp only [ValAt] at h ⊢
    obtain ⟨la, lc, ka, kc, xs, h1, h0, h2, h3, h4⟩ := h
    exact ⟨la, lc, ka, kc, xs, h1, h0, h2.kept hk hF, h3.kept hk hF, ValsAt.kept hk hF l xs h4⟩
theorem ValsAt.kept {w w' : World} {F G : Nat → Prop} (hk : Keeps F w w') (hF : ∀ b, F b → G b) : ∀ (l : List Tr) (xs : List Value), ValsAt w F l xs → ValsAt w' G l xs
  | [], _, h => by simp only [ValsAt] at h ⊢; exact h
  | t :: l, xs, h => by
    simp only [ValsAt] at h ⊢
    obtain ⟨c, r, h1, h2, h3⟩ := h
    exact ⟨c, r, h1, ValAt.kept hk hF t c h2, ValsAt.kept hk hF l r h3⟩
end

/-- all kinds in one form -/
theorem ValAt.uni {w : World} {F : Nat → Prop} {t : Tr} {cs : List Value} (h : ValAt w F t cs) :
    ∃ la lc ka kc xs, cs = vC (headStep t).sort (headStep t).flag (headStep t).bits (headStep t).text (.slice la (itemsT t).length lc) (.slice ka (headStep t).keys.length kc) ∧
      RowAt w F (.slice ka (headStep t).keys.length kc) (strs (headStep t).keys) ∧ RowN w F la xs ∧ ValsAt w F (itemsT t) xs ∧ (headStep t).count = (if (headStep t).sort = 5 then (itemsT t).length else 0) := by
  cases t with
  | null => simp only [ValAt] at h; obtain ⟨la, lc, ka, kc, rfl⟩ := h; exact ⟨la, lc, ka, kc, [], rfl, .inl ⟨rfl, _, _, rfl⟩, .inl rfl, by simp [itemsT, ValsAt], rfl⟩
  | flag b => simp only [ValAt] at h; obtain ⟨la, lc, ka, kc, rfl⟩ := h; exact ⟨la, lc, ka, kc, [], rfl, .inl ⟨rfl, _, _, rfl⟩, .inl rfl, by simp [itemsT, ValsAt], rfl⟩
  | num n => simp only [ValAt] at h; obtain ⟨la, lc, ka, kc, rfl⟩ := h; exact ⟨la, lc, ka, kc, [], rfl, .inl ⟨rfl, _, _, rfl⟩, .inl rfl, by simp [itemsT, ValsAt], rfl⟩
  | text s => simp only [ValAt] at h; obtain ⟨la, lc, ka, kc, rfl⟩ := h; exact ⟨la, lc, ka, kc, [], rfl, .inl ⟨rfl, _, _, rfl⟩, .inl rfl, by simp [itemsT, ValsAt], rfl⟩
  | list l => simp only [ValAt] at h; obtain ⟨la, lc, ka, kc, xs, rfl, h1, h2⟩ := h; exact ⟨la, lc, ka, kc, xs, rfl, .inl ⟨rfl, _, _, rfl⟩, h1, h2, rfl⟩
  | obj ks l => simp only [ValAt] at h; obtain ⟨la, lc, ka, kc, xs, rfl, _, h1, h2, h3⟩ := h; exact ⟨la, lc, ka, kc, xs, rfl, h1, h2, h3, rfl⟩

theorem ValAt.length {w : World} {F : Nat → Prop} {t : Tr} {cs : List Value} (h : ValAt w F t cs) : cs.length = 6 := by
  obtain ⟨_, _, _, _, _, rfl, _⟩ := h.uni; rfl

theorem ValsAt.get {w : World} {F : Nat → Prop} : ∀ {l : List Tr} {xs : List Value}, ValsAt w F l xs → ∀ (i : Nat) (t : Tr), l[i]? = some t → ∃ c, ValAt w F t c ∧ ∀ j v, c[j]? = some v → xs[6 * i + j]? = some v
  | [], _, _, i, t, hs => by simp at hs
  | t0 :: l, xs, h, i, t, hs => by
    simp only [ValsAt] at h
    obtain ⟨c, r, h1, h2, h3⟩ := h
    subst h1
    cases i with
    | zero =>
      simp at hs; subst hs
      refine ⟨c, h2, fun j v hv => ?_⟩
      have hj : j < c.length := (List.getElem?_eq_some_iff.1 hv).1
      rw [Nat.mul_zero, Nat.zero_add, List.getElem?_append_left hj, hv]
    | succ i =>
      obtain ⟨c', k2, k3⟩ := h3.get i t (by simpa using hs)
      have hl := h2.length
      refine ⟨c', k2, fun j v hv => ?_⟩
      rw [List.getElem?_append_right (by omega), ← k3 j v hv]
      congr 1
      omega

theorem ValsAt.length {w : World} {F : Nat → Prop} : ∀ {l : List Tr} {xs : List Value}, ValsAt w F l xs → xs.length = 6 * l.length
  | [], xs, h => by simp only [ValsAt] at h; subst h; rfl
  | t :: l, xs, h => by
    simp only [ValsAt] at h
    obtain ⟨c, r, h1, h2, h3⟩ := h
    subst h1
    have := h2.length
    have := h3.length
    simp; omega

/-- 'append(l, more...)' where more is a slice of some elements of several cells -/
theorem wpList_appendM {P : Program} {ops : Array Oper} {rest : List Oper} {o : Oper} {a : Act} {Q : Exit → Act → World → Prop} {w : World} (hgd : o.guard = none) (s x : Operand) (t : TypeId)
    (ho : o.op = .call { callee := .builtin .append, args := #[s, x], argTypes := #[t, t] })
    (e : TypeId) (z : Value) (sz bytes : Nat) (hsz : 0 < sz) (ht : P.underlying t = some (.slice e)) (hinfo : (P.info? e).map (fun i => (i.zero, i.size, i.bytes)) = some (some z, sz, bytes)) (hzs : z.cells.size = sz)
    (sv : Value) (n : Nat) (xs : List Value) (hs : a.eval s = sv) (hown : LstK w sv e sz n xs)
    (B m c : Nat) (us : List Value) (hx : a.eval x = .slice (some ⟨B, 0, none⟩) m c) (hm : 0 < m) (hul : us.length = m * sz) (hu : ∀ j v, us[j]? = some v → w.cell? ⟨B, j, none⟩ = some v) (hu1 : ∀ u ∈ us, u.oneCell' = true) (hn : (n + m) * bytes ≤ 140737488355328) (hn' : n + m ≤ 140737488355328)
    (h : ∀ g cap w', LstK w' (.slice (some ⟨g, 0, none⟩) (n + m) cap) e sz (n + m) (xs ++ us) → Chg w w' sv.ownBlock.toList → (sv.ownBlock = some g ∨ g = w.heap.size) →
      wpList P ops Q rest (a.put o.dst (.slice (some ⟨g, 0, none⟩) (n + m) cap)) w') : wpList P ops Q (o :: rest) a w := by
  obtain ⟨i, hi, hz, hsz', hby⟩ := info_parts hinfo
  have hnews : ∀ j v, us[j]? = some v → w.cell? ((⟨B, 0, none⟩ : Addr).add j) = some v := fun j v hv => by
    rw [show (⟨B, 0, none⟩ : Addr).add j = ⟨B, j, none⟩ from by unfold Addr.add; split <;> simp_all]
    exact hu j v hv
  obtain ⟨g, cap, w', hr, h1, h2, h3, h4⟩ := run_append_lies (P := P) w t o.type 0 e i z sz bytes ht hi hz hsz' hby hzs hsz sv n xs hown ⟨B, 0, none⟩ m c us hul hnews hu1 hm (by unfold maxLen; omega) hn (Nat.zero_le _) _ rfl
  refine wpList_plain hgd fun K hK => ?_
  unfold Oper.wp execOp
  simp only [ho, resolve, invoke, builtin, Sem.run_bind, Sem.run_pure, Result.andThen_ok, List.map_toArray, List.map_cons, List.map_nil, hs, hx, hr]
  exact hK _ _ (h g cap w' h1 ⟨h2.os, h2.tape, h2.output, h2.size, run_drawn _ _ _ _ hr, fun k hk hn => h2.block k hk fun he => hn (by rw [← he]; simp)⟩ h3)

theorem StepsAt.one' {w : World} {F : Nat → Prop} : ∀ {l : List StepP} {xs : List Value}, StepsAt w F l xs → ∀ u ∈ xs, u.oneCell' = true
  | [], _, h, u, hu => by unfold StepsAt at h; subst h; cases hu
  | s :: l, _, ⟨sk, r, h1, h2, h3⟩, u, hu => by
    subst h1
    obtain ⟨a, c, hsk, _⟩ := h2.cell
    rcases List.mem_append.1 hu with hu | hu
    · exact stepC_one s sk a _ c hsk u hu
    · exact h3.one' u hu
end Go.Proofs.YtfdhgakalojahaaGreatDoor

namespace Go.Proofs.YtfdhgakalojahaaGreatDoor
open Go Go.RowKit Tree

def zRStep : Value := .agg #[.int .i64 0, .bool false, .int .u64 0, .string ⟨#[]⟩, .int .i64 0, .slice none 0 0]
theorem info_rstep : (Tryz.prog.info? 50).map (fun i => (i.zero, i.size, i.bytes)) = some (some zRStep, 6, 72) := by kernel_rfl

theorem nodes_items' (t : Tr) : (szT t).nodes = (szL (itemsT t)).nodes + 1 := by
  rw [← stepsT_length, stepsT_eq, ← stepsL_length]; simp

theorem take_nodes' (l : List Tr) (i : Nat) : (szL (l.take i)).nodes ≤ (szL l).nodes := by
  have h := congrArg (fun s => (szL s).nodes) (List.take_append_drop i l)
  simp only [szL_append, Sz.add] at h
  omega

def RStepsPost (F : Nat → Prop) (t : Tr) (w : World) (e : Ending) (w' : World) : Prop :=
  ∃ g cap xs', e = .returned (.slice (some ⟨g, 0, none⟩) (szT t).nodes cap) ∧ LstK w' (.slice (some ⟨g, 0, none⟩) (szT t).nodes cap) 50 6 (szT t).nodes xs' ∧ StepsAt w' F (stepsT t) xs' ∧ Chg w w' [] ∧ w.heap.size ≤ g

/-- how the loop stands behind i of what is within -/
def RStepsLoop (F : Nat → Prop) (ts : List Tr) (w : World) (i : Nat) (v0 : Value) (wr : World) : Prop :=
  ∃ xs', LstK wr v0 50 6 (szL (ts.take i)).nodes xs' ∧ StepsAt wr F (stepsL (ts.take i)) xs' ∧ Chg w wr [] ∧ (∀ g, v0.ownBlock = some g → w.heap.size ≤ g)

set_option maxRecDepth 100000 in
set_option maxHeartbeats 16000000 in
theorem r10_Steps : ∀ (k : Nat) (t : Tr) (F : Nat → Prop) (cs : List Value) (w : World), (szT t).nodes ≤ k → (szT t).nodes ≤ 4294967296 → ValAt w F t cs → (∀ b, F b → b < w.heap.size) →
    Calls Tryz.prog 35 #[.agg cs.toArray] w (RStepsPost F t w) := by
  intro k
  induction k with
  | zero => intro t _ _ _ h; have := nodes_pos t; omega
  | succ k ih =>
    intro t F cs w hk hnk hv hF
    have IH := Lib.hid ih
    have HF := Lib.hid hF
    obtain ⟨la, lc, ka, kc, xs, rfl, hks, hrow, hvals, hcount⟩ := hv.uni
    have HKS := Lib.hid hks
    have HROW := Lib.hid hrow
    have HVALS := Lib.hid hvals
    obtain ⟨hs, hhs⟩ : ∃ hs, hs = headStep t := ⟨_, rfl⟩
    rw [← hhs] at hcount HKS ⊢
    have HHS := Lib.hid hhs
    have HCOUNT := Lib.hid hcount
    have hnl := items_length t
    obtain ⟨nl, hnl2⟩ : ∃ nl, nl = (itemsT t).length := ⟨_, rfl⟩
    rw [← hnl2] at hnl ⊢
    have HNL := Lib.hid hnl2
    obtain ⟨kn, hkn⟩ : ∃ kn, kn = hs.keys.length := ⟨_, rfl⟩
    rw [← hkn] at HKS ⊢
    clear ih hv hF hks hrow hvals hhs hcount hnl2 hkn
    obtain ⟨w0, hw0⟩ : ∃ x, x = w.alloc (.cells (vC hs.sort hs.flag hs.bits hs.text (.slice la nl lc) (.slice ka kn kc)).toArray 42) := ⟨_, rfl⟩
    have HX : Hid (Blk w0 w.heap.size (vC hs.sort hs.flag hs.bits hs.text (.slice la nl lc) (.slice ka kn kc)) 42) := by rw [hw0]; exact Lib.hid (Blk.new _ _ _)
    have HG0 : Hid (Chg w w0 []) := by rw [hw0]; exact Lib.hid ((Chg.refl w []).alloc _)
    have hwz : w0.heap.size = w.heap.size + 1 := by rw [hw0]; simp
    have HWZ := Lib.hid hwz
    rw [vC_arr] at hw0
    have HW := Lib.hid hw0
    clear hw0 hwz
    rw [vC_arr]
    go_enter Tryz.func35, Tryz.ntmps35
    go_wp2_with fail
    rw [← HW.out]
    go_loopw [3, 4] (fun v3 v4 wr => ∃ (i : Nat) (vv : Value), i ≤ nl ∧ v4 = .int .i64 i ∧ vv = v3 ∧ RStepsLoop F (itemsT t) w0 i vv wr) (fun _ v4 _ => nl - (intOf v4).toNat)
    case atStart => exact ⟨0, _, by omega, rfl, rfl, [], by simpa [szL] using LstK.nil _ _ _, by simp [stepsL, StepsAt], Chg.refl _ _, fun g hg => by cases hg⟩
    case round =>
      obtain ⟨i, vv, hi, rfl, rfl, xs', hL, hS, hG, hO⟩ := hrel
      have HXR := Lib.hid (HX.out.kept hG (by simp))
      obtain ⟨xl, xf, x0, x1, x2, x3, x4, x5⟩ := HXR.out.cells6
      have HL := Lib.hid hL
      have HS := Lib.hid hS
      have HG := Lib.hid hG
      have HO := Lib.hid hO
      clear hL hS hG hO
      by_cases hlt : i < nl
      · obtain ⟨u, hu⟩ : ∃ u, (itemsT t)[i]? = some u := ⟨_, List.getElem?_eq_getElem (by rw [← HNL.out]; exact hlt)⟩
        obtain ⟨c, hc, hcx⟩ := HVALS.out.get i u hu
        have hun := item_nodes hu
        have hc6 := hc.length
        have hxs := HVALS.out.length
        obtain ⟨b, o, rfl, hFb, hcell⟩ : ∃ b o, la = some ⟨b, o, none⟩ ∧ F b ∧ ∀ i v, xs[i]? = some v → w.cell? ⟨b, o + i, none⟩ = some v := by
          rcases HROW.out with h | h
          · exfalso; rw [h] at hxs; simp at hxs; have := HNL.out; omega
          · exact h
        have hb0 := HF.out b hFb
        have hrg : wr.rangeAt b (o + i * 6) c := fun j v hv => by
          have h1 := hcell _ _ (hcx j v hv)
          rw [show o + i * 6 + j = o + (6 * i + j) from by omega]
          exact (HG0.out.trans HG.out).keeps h1
        have HRG := Lib.hid hrg
        have HC := Lib.hid (ValAt.kept ((HG0.out.trans HG.out).keepsF HF.out (by simp)) (fun _ h => h) _ _ hc)
        have hiv : (Tryz.prog.info? 42).map (·.size) = some c.length := by rw [hc6]; exact info_val
        have HIV := Lib.hid hiv
        have HU := Lib.hid hu
        have HWF : Hid (∀ b, F b → b < wr.heap.size) := Lib.hid fun b hb => Nat.lt_of_lt_of_le (HF.out b hb) (HG0.out.trans HG.out).size
        have hpos := nodes_pos u
        have htk : (szL ((itemsT t).take i)).nodes + (szT u).nodes ≤ (szT t).nodes := by
          have h1 := take_nodes' (itemsT t) (i + 1)
          rw [szL_take_succ hu] at h1
          have h2 := nodes_items' t
          simp only [Sz.add] at h1
          omega
        have HB : Hid (((szL ((itemsT t).take i)).nodes + (szT u).nodes) * 72 ≤ 140737488355328 ∧ (szL ((itemsT t).take i)).nodes + (szT u).nodes ≤ 140737488355328 ∧ 0 < (szT u).nodes) := Lib.hid ⟨by omega, by omega, hpos⟩
        have HRC := Lib.hid (IH.out u F c wr (by omega) (by omega) HC.out HWF.out)
        clear hu hc hcx hun hc6 hxs hcell hrg hiv htk hpos xf
        go_wp2_with (first
          | (refine wpList_load_mid rfl _ _ rfl b (o + i * 6) (by rfl) c _ HRG.out Tryz.underlying42 rfl HIV.out ?_))
        refine HRC.out.mono ?_
        rintro e w6 ⟨g6, cap6, xs6, rfl, hL6, hS6, hG6, hO6⟩
        have HL6 := Lib.hid hL6
        have HS6 := Lib.hid hS6
        have HG6 := Lib.hid hG6
        have hl6 : xs6.length = (szT u).nodes * 6 := by rw [hS6.length, stepsT_length]; omega
        have HN6 := Lib.hid hl6
        clear hL6 hS6 hG6 hl6 x0 x1 x2 x3 x4 x5
        go_wp2_with (first
          | (at_builtin; go_loud (refine wpList_appendM rfl _ _ _ rfl 50 zRStep 6 72 (by decide) Tryz.underlying45 info_rstep rfl vv (szL ((itemsT t).take i)).nodes xs' (by rfl) (by exact HL.out.kept HG6.out (by simp)) g6 (szT u).nodes cap6 xs6 (by rfl) HB.out.2.2 HN6.out (fun j v hv => HL6.out.cell rfl j v hv) HS6.out.one' HB.out.1 HB.out.2.1 ?_); intro g7 cap7 w7 hL7 hC7 hO7; have HL7 := Lib.hid hL7; have HC7 := Lib.hid hC7; have HO7 := Lib.hid hO7; clear hL7 hC7 hO7))
        go_roundw
        case rel =>
          have hgr : Chg w0 w6 [] := HG.out.trans HG6.out
          have hg7 : Chg w0 w7 [] := hgr.fresh HC7.out (fun j hj => HO.out j (by simpa using hj))
          have hwf : ∀ b, F b → b < w0.heap.size := fun b hb => Nat.lt_of_lt_of_le (HF.out b hb) HG0.out.size
          have hkp : ∀ (wx : World), Chg w0 wx [] → Keeps F wx w7 := fun wx hx b o hb => (hg7.cell (p := ⟨b, o, none⟩) (hwf b hb) (by simp)).trans (hx.cell (p := ⟨b, o, none⟩) (hwf b hb) (by simp)).symm
          refine ⟨i + 1, _, by omega, by go_num, rfl, xs' ++ xs6, ?_, ?_, hg7, ?_⟩
          · rw [szL_take_succ HU.out]
            simpa [Sz.add] using HL7.out
          · rw [stepsL_take_succ HU.out]
            exact (StepsAt.kept (hkp wr HG.out) (fun _ h => h) _ _ HS.out).append (StepsAt.kept (hkp w6 hgr) (fun _ h => h) _ _ HS6.out)
          · intro g' hg'
            simp [Value.ownBlock] at hg'
            subst hg'
            rcases HO7.out with h | h
            · exact HO.out _ h
            · have := hgr.size; omega
        case measure => simp [intOf]; omega
      · obtain rfl : nl = i := by omega
        have htake : (itemsT t).take nl = itemsT t := List.take_of_length_le (by rw [HNL.out]; exact Nat.le_refl _)
        rw [htake] at HL HS
        have hnn := nodes_items' t
        have HNN := Lib.hid hnn
        have HB : Hid (((szL (itemsT t)).nodes + 1) * 72 ≤ 140737488355328 ∧ (szL (itemsT t)).nodes ≤ 140737488355328) := Lib.hid ⟨by omega, by omega⟩
        clear htake hnn
        have HNW : Hid (∀ (A : Obj) (us : List Value), Blk ((wr.alloc A).alloc (.cells us.toArray 50)) (wr.heap.size + 1) us 50) := Lib.hid (fun A us => by
          have h := Blk.new (wr.alloc A) us 50
          rw [World.size_alloc] at h
          exact h)
        by_cases h5 : hs.sort = 5
        · have hcx : (hs.count : Int) = (nl:Int) := by rw [HCOUNT.out]; first | rw [if_pos h5, HNL.out] | (rw [if_neg h5]; rfl)
          have d5 : ((hs.sort : Int) == 5) = true := by simp; omega
          have HUS : Hid (stepC hs (.slice ka kn kc) = [.int .i64 hs.sort, .bool hs.flag, .int .u64 hs.bits, .string hs.text, .int .i64 (nl:Int), .slice ka kn kc]) := Lib.hid (by unfold stepC; rw [hcx])
          have HONE : Hid (∀ u ∈ ([.int .i64 hs.sort, .bool hs.flag, .int .u64 hs.bits, .string hs.text, .int .i64 (nl:Int), .slice ka kn kc] : List Value), u.oneCell' = true) := Lib.hid (by rw [← HUS.out]; exact stepC_one _ _ ka kn kc rfl)
          clear hcx h5
          go_wp2_with (first
            | (at_builtin; go_loud (refine wpList_appendK rfl _ _ _ rfl 50 zRStep 6 72 (by decide) Tryz.underlying45 info_rstep rfl vv (szL (itemsT t)).nodes xs' (by rfl) (by exact HL.out.kept (bs := []) (by (repeat (first | exact Chg.refl _ _ | with_reducible refine Chg.drewN ?_ _ | with_reducible refine Chg.drew ?_ | with_reducible refine Chg.alloc ?_ _ | with_reducible refine Chg.setCell ?_ _ _ (by simp) | with_reducible refine Chg.setCell ?_ _ _ (by simp; omega)))) (by simp)) (wr.heap.size + 1) [.int .i64 hs.sort, .bool hs.flag, .int .u64 hs.bits, .string hs.text, .int .i64 (nl:Int), .slice ka kn kc] (by rfl) rfl (by intro j v hv; exact ((HNW.out _ _).cell j).trans hv) HONE.out HB.out.1 HB.out.2 ?_); intro g cap w7 hL7 hC7 hO7; rw [← HUS.out] at hL7; have HL7 := Lib.hid hL7; have HC7 := Lib.hid hC7; have HO7 := Lib.hid hO7; clear hL7 hC7 hO7))
          have hen : (szL (itemsT t)).nodes + 1 = (szT t).nodes := HNN.out.symm
          rw [hen] at HL7 ⊢
          go_ret
          have hg8 : Chg w0 w7 [] := ((HG.out.alloc _).alloc _).fresh HC7.out (fun j hj => HO.out j (by simpa using hj))
          have hwf : ∀ b, F b → b < w0.heap.size := fun b hb => Nat.lt_of_lt_of_le (HF.out b hb) HG0.out.size
          have hkp : ∀ (wx : World), Chg w0 wx [] → Keeps F wx w7 := fun wx hx b o hb => (hg8.cell (p := ⟨b, o, none⟩) (hwf b hb) (by simp)).trans (hx.cell (p := ⟨b, o, none⟩) (hwf b hb) (by simp)).symm
          have hks : RowAt w7 F (.slice ka kn kc) (strs hs.keys) := HKS.out.kept ((HG0.out.trans hg8).keepsF HF.out (by simp)) (fun _ h => h)
          refine ⟨g, cap, _, rfl, HL7.out, ?_, HG0.out.trans hg8, ?_⟩
          · rw [stepsT_eq, ← HHS.out]
            exact (StepsAt.kept (hkp wr HG.out) (fun _ h => h) _ _ HS.out).append (StepsAt.one hs _ hks)
          · rcases HO7.out with h | h
            · have := HO.out _ h; have := HWZ.out; omega
            · have := (HG0.out.trans HG.out).size; simp at h; omega
        · have hcx : (hs.count : Int) = (0:Int) := by rw [HCOUNT.out]; first | rw [if_pos h5, HNL.out] | (rw [if_neg h5]; rfl)
          have d5 : ((hs.sort : Int) == 5) = false := by simp; omega
          have HUS : Hid (stepC hs (.slice ka kn kc) = [.int .i64 hs.sort, .bool hs.flag, .int .u64 hs.bits, .string hs.text, .int .i64 (0:Int), .slice ka kn kc]) := Lib.hid (by unfold stepC; rw [hcx])
          have HONE : Hid (∀ u ∈ ([.int .i64 hs.sort, .bool hs.flag, .int .u64 hs.bits, .string hs.text, .int .i64 (0:Int), .slice ka kn kc] : List Value), u.oneCell' = true) := Lib.hid (by rw [← HUS.out]; exact stepC_one _ _ ka kn kc rfl)
          clear hcx h5
          go_wp2_with (first
            | (at_builtin; go_loud (refine wpList_appendK rfl _ _ _ rfl 50 zRStep 6 72 (by decide) Tryz.underlying45 info_rstep rfl vv (szL (itemsT t)).nodes xs' (by rfl) (by exact HL.out.kept (bs := []) (by (repeat (first | exact Chg.refl _ _ | with_reducible refine Chg.drewN ?_ _ | with_reducible refine Chg.drew ?_ | with_reducible refine Chg.alloc ?_ _ | with_reducible refine Chg.setCell ?_ _ _ (by simp) | with_reducible refine Chg.setCell ?_ _ _ (by simp; omega)))) (by simp)) (wr.heap.size + 1) [.int .i64 hs.sort, .bool hs.flag, .int .u64 hs.bits, .string hs.text, .int .i64 (0:Int), .slice ka kn kc] (by rfl) rfl (by intro j v hv; exact ((HNW.out _ _).cell j).trans hv) HONE.out HB.out.1 HB.out.2 ?_); intro g cap w7 hL7 hC7 hO7; rw [← HUS.out] at hL7; have HL7 := Lib.hid hL7; have HC7 := Lib.hid hC7; have HO7 := Lib.hid hO7; clear hL7 hC7 hO7))
          have hen : (szL (itemsT t)).nodes + 1 = (szT t).nodes := HNN.out.symm
          rw [hen] at HL7 ⊢
          go_ret
          have hg8 : Chg w0 w7 [] := ((HG.out.alloc _).alloc _).fresh HC7.out (fun j hj => HO.out j (by simpa using hj))
          have hwf : ∀ b, F b → b < w0.heap.size := fun b hb => Nat.lt_of_lt_of_le (HF.out b hb) HG0.out.size
          have hkp : ∀ (wx : World), Chg w0 wx [] → Keeps F wx w7 := fun wx hx b o hb => (hg8.cell (p := ⟨b, o, none⟩) (hwf b hb) (by simp)).trans (hx.cell (p := ⟨b, o, none⟩) (hwf b hb) (by simp)).symm
          have hks : RowAt w7 F (.slice ka kn kc) (strs hs.keys) := HKS.out.kept ((HG0.out.trans hg8).keepsF HF.out (by simp)) (fun _ h => h)
          refine ⟨g, cap, _, rfl, HL7.out, ?_, HG0.out.trans hg8, ?_⟩
          · rw [stepsT_eq, ← HHS.out]
            exact (StepsAt.kept (hkp wr HG.out) (fun _ h => h) _ _ HS.out).append (StepsAt.one hs _ hks)
          · rcases HO7.out with h | h
            · have := HO.out _ h; have := HWZ.out; omega
            · have := (HG0.out.trans HG.out).size; simp at h; omega
end Go.Proofs.YtfdhgakalojahaaGreatDoor

namespace Go.Proofs.YtfdhgakalojahaaGreatDoor
open Go Go.RowKit Tree

theorem szT_uni (t : Tr) : szT t = ⟨1 + (szL (itemsT t)).nodes, (headStep t).text.size + bytesOf (headStep t).keys + (szL (itemsT t)).bytes, (szL (itemsT t)).depth + 1⟩ := by
  cases t <;> simp [szT, itemsT, headStep, szL, Sz.over, bytesOf, noB] <;> rfl

theorem ValAt.keysLen {w : World} {F : Nat → Prop} {t : Tr} {cs : List Value} (h : ValAt w F t cs) : (headStep t).keys.length ≤ (itemsT t).length := by
  cases t with
  | obj ks l => simp only [ValAt] at h; obtain ⟨_, _, _, _, _, _, h1, _⟩ := h; exact Nat.le_of_eq h1
  | _ => simp [headStep]

theorem take_sz (l : List Tr) (i : Nat) : (szL (l.take i)).nodes ≤ (szL l).nodes ∧ (szL (l.take i)).bytes ≤ (szL l).bytes ∧ (szL (l.take i)).depth ≤ (szL l).depth := by
  have h := congrArg (fun s => szL s) (List.take_append_drop i l)
  simp only [szL_append, Sz.add] at h
  rw [← h]
  exact ⟨by simp, by simp, by simp; omega⟩

theorem get_sz {l : List Tr} {i : Nat} {t : Tr} (h : l[i]? = some t) : (szT t).nodes ≤ (szL l).nodes ∧ (szT t).bytes ≤ (szL l).bytes ∧ (szT t).depth ≤ (szL l).depth := by
  have h1 := take_sz l (i + 1)
  rw [szL_take_succ h] at h1
  simp only [Sz.add] at h1
  omega

theorem bytesOf_take_succ {ks : List ByteArray} {i : Nat} {s : ByteArray} (h : ks[i]? = some s) : bytesOf (ks.take (i + 1)) = bytesOf (ks.take i) + s.size := by
  unfold bytesOf
  rw [List.take_add_one, h]; simp
theorem bytesOf_take (ks : List ByteArray) (i : Nat) : bytesOf (ks.take i) ≤ bytesOf ks := by
  have h := congrArg bytesOf (List.take_append_drop i ks)
  unfold bytesOf at *
  simp only [List.map_append, List.sum_append] at h
  omega

set_option maxRecDepth 100000 in
set_option maxHeartbeats 16000000 in
theorem r10_Size : ∀ (k : Nat) (t : Tr) (F : Nat → Prop) (cs : List Value) (w : World), (szT t).nodes ≤ k → (szT t).nodes ≤ 1099511627776 → (szT t).bytes ≤ 1152921504606846976 → (szT t).depth ≤ 1099511627776 → ValAt w F t cs → (∀ b, F b → b < w.heap.size) →
    Calls Tryz.prog 102 #[.agg cs.toArray] w fun e w' => e = .returned (.tuple #[.int .i64 (szT t).nodes, .int .i64 (szT t).bytes, .int .i64 (szT t).depth]) ∧ Chg w w' [] := by
  intro k
  induction k with
  | zero => intro t _ _ _ h; have := nodes_pos t; omega
  | succ k ih =>
    intro t F cs w hk hnk hbk hdk hv hF
    have IH := Lib.hid ih
    have HF := Lib.hid hF
    obtain ⟨la, lc, ka, kc, xs, rfl, hks, hrow, hvals, _⟩ := hv.uni
    have hun := szT_uni t
    have hnl := items_length t
    have hkl := hv.keysLen
    have HKS := Lib.hid hks
    have HROW := Lib.hid hrow
    have HVALS := Lib.hid hvals
    have hin : ∀ i u, (itemsT t)[i]? = some u → (szT u).nodes < (szT t).nodes := fun i u h => item_nodes h
    have HIN := Lib.hid hin
    obtain ⟨hs, hhs⟩ : ∃ hs, hs = headStep t := ⟨_, rfl⟩
    obtain ⟨L, hL⟩ : ∃ L, L = itemsT t := ⟨_, rfl⟩
    rw [← hhs] at HKS hun hkl ⊢
    rw [← hL] at HVALS hun hnl HIN hkl ⊢
    have hbn : (szL L).nodes ≤ 1099511627776 ∧ (szL L).bytes ≤ 1152921504606846976 ∧ (szL L).depth ≤ 1099511627776 ∧ hs.text.size + bytesOf hs.keys + (szL L).bytes ≤ 1152921504606846976 := by
      have h1 := congrArg Sz.nodes hun
      have h2 := congrArg Sz.bytes hun
      have h3 := congrArg Sz.depth hun
      simp only at h1 h2 h3
      omega
    obtain ⟨bn1, bn2, bn3, bn4⟩ := hbn
    have HUN := Lib.hid hun
    obtain ⟨nl, hnl2⟩ : ∃ nl, nl = L.length := ⟨_, rfl⟩
    rw [← hnl2] at hnl hkl ⊢
    have HNL := Lib.hid hnl2
    obtain ⟨kn, hkn⟩ : ∃ kn, kn = hs.keys.length := ⟨_, rfl⟩
    rw [← hkn] at HKS hkl ⊢
    have HKN := Lib.hid hkn
    obtain ⟨N, hN⟩ : ∃ N, N = (szT t).nodes := ⟨_, rfl⟩
    rw [← hN] at hnl hk hnk
    have hsl : hs.text.size ≤ 1152921504606846976 := by omega
    have hkn2 : kn ≤ 1099511627776 := by omega
    clear ih hv hF hks hrow hvals hhs hnl2 hkn hin hun hL hbk hdk
    obtain ⟨w0, hw0⟩ : ∃ x, x = w.alloc (.cells (vC hs.sort hs.flag hs.bits hs.text (.slice la nl lc) (.slice ka kn kc)).toArray 42) := ⟨_, rfl⟩
    have HX : Hid (Blk w0 w.heap.size (vC hs.sort hs.flag hs.bits hs.text (.slice la nl lc) (.slice ka kn kc)) 42) := by rw [hw0]; exact Lib.hid (Blk.new _ _ _)
    have HG0 : Hid (Chg w w0 []) := by rw [hw0]; exact Lib.hid ((Chg.refl w []).alloc _)
    have hwz : w0.heap.size = w.heap.size + 1 := by rw [hw0]; simp
    have HWZ := Lib.hid hwz
    rw [vC_arr] at hw0
    have HW := Lib.hid hw0
    obtain ⟨xl0, xf0, y0, y1, y2, y3, y4, y5⟩ := HX.out.cells6
    clear hw0 hwz
    rw [vC_arr]
    go_enter Tryz.func102, Tryz.ntmps102
    go_wp2_with fail
    rw [← HW.out]
    go_quiet (fail)
    go_wp2_with fail
    go_loopw [6, 8] (fun v6 v8 wr => ∃ i : Nat, i ≤ kn ∧ v8 = .int .i64 i ∧ v6 = .int .i64 (hs.text.size + bytesOf (hs.keys.take i) : Nat) ∧ Chg w0 wr []) (fun _ v8 _ => kn - (intOf v8).toNat)
    case atStart => exact ⟨0, by omega, rfl, by simp [bytesOf], by (repeat (first | exact Chg.refl _ _ | with_reducible refine Chg.drewN ?_ _ | with_reducible refine Chg.drew ?_ | with_reducible refine Chg.alloc ?_ _ | with_reducible refine Chg.setCell ?_ _ _ (by simp) | with_reducible refine Chg.setCell ?_ _ _ (by simp; omega)))⟩
    case round =>
      obtain ⟨i, hi, rfl, rfl, hg⟩ := hrel
      have HXR := Lib.hid (HX.out.kept hg (by simp))
      obtain ⟨xl, xf, x0, x1, x2, x3, x4, x5⟩ := HXR.out.cells6
      have HG := Lib.hid hg
      clear hg
      by_cases hlt : i < kn
      · obtain ⟨s, hs2⟩ : ∃ s, hs.keys[i]? = some s := ⟨_, List.getElem?_eq_getElem (by rw [← HKN.out]; exact hlt)⟩
        have hnx := bytesOf_take_succ hs2
        have hle := bytesOf_take hs.keys (i + 1)
        obtain ⟨b, o, hka, hFb, hcell⟩ : ∃ b o, ka = some ⟨b, o, none⟩ ∧ F b ∧ w.cell? ⟨b, o + i, none⟩ = some (.string s) := by
          rcases HKS.out with ⟨h, _⟩ | ⟨b, o, c, h1, h2, h3⟩
          · exfalso; have h1 := congrArg List.length h; rw [strs_len] at h1; have := HKN.out; simp only [List.length_nil] at h1; omega
          · injection h1 with h1 _ _
            exact ⟨b, o, h1, h2, h3 i _ (by simp [strs, hs2])⟩
        subst hka
        have hc := (HG0.out.trans HG.out).keeps hcell
        obtain ⟨M, hM⟩ : ∃ M, M = hs.text.size + bytesOf (hs.keys.take i) := ⟨_, rfl⟩
        have hM2 : hs.text.size + bytesOf (hs.keys.take (i + 1)) = M + s.size := by rw [hnx, hM]; omega
        have hM3 : M + s.size ≤ 1152921504606846976 := by omega
        rw [← hM]
        have HM2 := Lib.hid hM2
        clear hM hM2 hnx hle hs2 hcell
        go_wp2_with fail
        go_roundw
        case rel => exact ⟨i + 1, by omega, by go_num, by rw [HM2.out]; go_num, by (repeat (first | exact HG.out | with_reducible refine Chg.drewN ?_ _ | with_reducible refine Chg.drew ?_ | with_reducible refine Chg.alloc ?_ _ | with_reducible refine Chg.setCell ?_ _ _ (by simp) | with_reducible refine Chg.setCell ?_ _ _ (by simp; omega)))⟩
        case measure => simp [intOf]; omega
      · obtain rfl : i = kn := by omega
        have htake : hs.keys.take i = hs.keys := List.take_of_length_le (by rw [HKN.out]; exact Nat.le_refl _)
        rw [htake]
        obtain ⟨M, hM⟩ : ∃ M, M = hs.text.size + bytesOf hs.keys := ⟨_, rfl⟩
        rw [← hM] at bn4 HUN ⊢
        clear htake hM
        go_wp2_with fail
        go_loopw [5, 6, 7, 9] (fun v5 v6 v7 v9 wr => ∃ j : Nat, j ≤ nl ∧ v9 = .int .i64 j ∧ v5 = .int .i64 (1 + (szL (L.take j)).nodes : Nat) ∧ v6 = .int .i64 (M + (szL (L.take j)).bytes : Nat) ∧ v7 = .int .i64 (szL (L.take j)).depth ∧ Chg w0 wr []) (fun _ _ _ v9 _ => nl - (intOf v9).toNat)
        case atStart => exact ⟨0, by omega, rfl, by simp [szL], by simp [szL], by simp [szL], by (repeat (first | exact HG.out | with_reducible refine Chg.drewN ?_ _ | with_reducible refine Chg.drew ?_ | with_reducible refine Chg.alloc ?_ _ | with_reducible refine Chg.setCell ?_ _ _ (by simp) | with_reducible refine Chg.setCell ?_ _ _ (by simp; omega)))⟩
        case round =>
          obtain ⟨j, hj, rfl, rfl, rfl, rfl, hg⟩ := hrel
          clear xl xf x0 x1 x2 x3 x4 x5 HXR
          have HXR := Lib.hid (HX.out.kept hg (by simp))
          obtain ⟨xl, xf, x0, x1, x2, x3, x4, x5⟩ := HXR.out.cells6
          have HGr := Lib.hid hg
          clear hg
          have htk := take_sz L j
          obtain ⟨nj, hnj⟩ : ∃ x, x = (szL (L.take j)).nodes := ⟨_, rfl⟩
          obtain ⟨bj, hbj⟩ : ∃ x, x = (szL (L.take j)).bytes := ⟨_, rfl⟩
          obtain ⟨dj, hdj⟩ : ∃ x, x = (szL (L.take j)).depth := ⟨_, rfl⟩
          rw [← hnj, ← hbj, ← hdj] at htk ⊢
          obtain ⟨tk1, tk2, tk3⟩ := htk
          by_cases hlt : j < nl
          · obtain ⟨u, hu⟩ : ∃ u, L[j]? = some u := ⟨_, List.getElem?_eq_getElem (by rw [← HNL.out]; exact hlt)⟩
            obtain ⟨c, hc, hcx⟩ := HVALS.out.get j u hu
            have hun := HIN.out j u hu
            have hgs := get_sz hu
            have hc6 := hc.length
            have hxs := HVALS.out.length
            have htk2 := take_sz L (j + 1)
            have hnx := szL_take_succ hu
            rw [hnx] at htk2
            simp only [Sz.add, ← hnj, ← hbj, ← hdj] at htk2
            obtain ⟨b, o, rfl, hFb, hcell⟩ : ∃ b o, la = some ⟨b, o, none⟩ ∧ F b ∧ ∀ i v, xs[i]? = some v → w.cell? ⟨b, o + i, none⟩ = some v := by
              rcases HROW.out with h | h
              · exfalso; rw [h] at hxs; simp at hxs; have := HNL.out; omega
              · exact h
            have hb0 := HF.out b hFb
            have hrg : wr.rangeAt b (o + j * 6) c := fun q v hv => by
              have h1 := hcell _ _ (hcx q v hv)
              rw [show o + j * 6 + q = o + (6 * j + q) from by omega]
              exact (HG0.out.trans HGr.out).keeps h1
            have HRG := Lib.hid hrg
            have HC := Lib.hid (ValAt.kept ((HG0.out.trans HGr.out).keepsF HF.out (by simp)) (fun _ h => h) _ _ hc)
            have hiv : (Tryz.prog.info? 42).map (·.size) = some c.length := by rw [hc6]; exact info_val
            have HIV := Lib.hid hiv
            have HWF : Hid (∀ b, F b → b < wr.heap.size) := Lib.hid fun b hb => Nat.lt_of_lt_of_le (HF.out b hb) (HG0.out.trans HGr.out).size
            have HRC := Lib.hid (IH.out u F c wr (by omega) (by omega) (by omega) (by omega) HC.out HWF.out)
            have hnx' : szL (L.take (j + 1)) = ⟨nj + (szT u).nodes, bj + (szT u).bytes, max dj (szT u).depth⟩ := by rw [hnx]; simp only [Sz.add, ← hnj, ← hbj, ← hdj]
            obtain ⟨U, hU⟩ : ∃ U, U = szT u := ⟨_, rfl⟩
            rw [← hU] at HRC hnx' htk2 hgs
            obtain ⟨u1, u2, u3⟩ := U
            simp only at HRC hnx' htk2 hgs
            obtain ⟨g1, g2, g3⟩ := hgs
            obtain ⟨k1, k2, k3⟩ := htk2
            have HNX := Lib.hid hnx'
            clear hu hc hcx hun hc6 hxs hcell hrg hiv hnx hnx' hU hnj hbj hdj
            go_wp2_with (first
              | (refine wpList_load_mid rfl _ _ rfl b (o + j * 6) (by rfl) c _ HRG.out Tryz.underlying42 rfl HIV.out ?_))
            refine HRC.out.mono ?_
            rintro e w6 ⟨rfl, hg6⟩
            have HG6 := Lib.hid hg6
            clear hg6
            by_cases hdd : dj < u3
            · go_wp2_with fail
              go_roundw
              case rel => exact ⟨j + 1, by omega, by go_num, by rw [HNX.out]; go_num, by rw [HNX.out]; go_num, by rw [HNX.out]; simp only [Nat.max_eq_right (Nat.le_of_lt hdd)], HGr.out.trans HG6.out⟩
              case measure => simp [intOf]; omega
            · go_wp2_with fail
              go_roundw
              case rel => exact ⟨j + 1, by omega, by go_num, by rw [HNX.out]; go_num, by rw [HNX.out]; go_num, by rw [HNX.out]; simp only [Nat.max_eq_left (Nat.le_of_not_lt hdd)], HGr.out.trans HG6.out⟩
              case measure => simp [intOf]; omega
          · obtain rfl : j = nl := by omega
            have htake : L.take j = L := List.take_of_length_le (by rw [HNL.out]; exact Nat.le_refl _)
            have e1 : (szT t).nodes = 1 + nj ∧ (szT t).bytes = M + bj ∧ (szT t).depth = dj + 1 := by rw [htake] at hnj hbj hdj; rw [HUN.out, hnj, hbj, hdj]; exact ⟨rfl, rfl, rfl⟩
            have HE := Lib.hid e1
            clear htake e1 hnj hbj hdj hN
            go_wp2_with fail
            refine bodyPost_ret (results_tmp3 rfl _ _ _) rfl ?_
            rw [HE.out.1, HE.out.2.1, HE.out.2.2]
            exact ⟨by go_num, HG0.out.trans HGr.out⟩
end Go.Proofs.YtfdhgakalojahaaGreatDoor

namespace Go.Proofs.YtfdhgakalojahaaGreatDoor
open Go Go.RowKit Tree

set_option maxRecDepth 100000 in
set_option maxHeartbeats 2000000 in
theorem r10_Within (t : Tr) (F : Nat → Prop) (cs : List Value) (w : World) (hn : (szT t).nodes ≤ 1099511627776) (hb : (szT t).bytes ≤ 1152921504606846976) (hd : (szT t).depth ≤ 1099511627776) (hv : ValAt w F t cs) (hF : ∀ b, F b → b < w.heap.size) :
    Calls Tryz.prog 68 #[.agg cs.toArray] w fun e w' => e = .returned (.bool (szT t).within) ∧ Chg w w' [] := by
  have HS := Lib.hid fun w' (h : Chg w w' []) => r10_Size _ t F cs w' (Nat.le_refl _) hn hb hd (ValAt.kept (h.keepsF hF (by simp)) (fun _ h => h) _ _ hv) (fun b hb => Nat.lt_of_lt_of_le (hF b hb) h.size)
  obtain ⟨la, lc, ka, kc, xs, rfl, _⟩ := hv.uni
  obtain ⟨z1, hz1⟩ : ∃ x, x = (szT t).nodes := ⟨_, rfl⟩
  obtain ⟨z2, hz2⟩ : ∃ x, x = (szT t).bytes := ⟨_, rfl⟩
  obtain ⟨z3, hz3⟩ : ∃ x, x = (szT t).depth := ⟨_, rfl⟩
  have hW : (szT t).within = (decide (z1 ≤ 65536) && decide (z2 ≤ 2097152) && decide (z3 ≤ 512)) := by unfold Sz.within; rw [hz1, hz2, hz3]
  rw [hW]
  rw [← hz1, ← hz2, ← hz3] at HS
  rw [vC_arr] at HS ⊢
  clear hv hF hz1 hz2 hz3 hW hn hb hd
  go_enter Tryz.func68, Tryz.ntmps68
  go_wp2_with (first | (go_at_call 102; refine (HS.out _ (by (repeat (first | exact Chg.refl _ _ | with_reducible refine Chg.drewN ?_ _ | with_reducible refine Chg.drew ?_ | with_reducible refine Chg.alloc ?_ _ | with_reducible refine Chg.setCell ?_ _ _ (by simp) | with_reducible refine Chg.setCell ?_ _ _ (by simp; omega))))).mono ?_; rintro e w1 ⟨rfl, hg1⟩))
  all_goals go_ret
  all_goals refine ⟨ret_bool ?_, ((Chg.refl w []).alloc _).trans hg1⟩
  all_goals go_light
  all_goals (rw [Bool.eq_iff_iff]; simp; omega)
end Go.Proofs.YtfdhgakalojahaaGreatDoor

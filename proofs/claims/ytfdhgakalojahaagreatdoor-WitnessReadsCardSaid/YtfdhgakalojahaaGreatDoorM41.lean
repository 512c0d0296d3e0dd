/- WALKS: the reference's layer 10: a step that is done. -/
import Derived.Test.YtfdhgakalojahaaGreatDoorM39
set_option linter.unusedSimpArgs false
set_option linter.unusedVariables false
set_option linter.unnecessarySimpa false
set_option linter.unusedSectionVars false
namespace Go.Proofs.YtfdhgakalojahaaGreatDoor
open Go Go.RowKit Tree

theorem ValsAt.split {w : World} {F : Nat → Prop} {l : List Tr} {xs : List Value} (h : ValsAt w F l xs) (k : Nat) : ValsAt w F (l.take k) (xs.take (6 * k)) ∧ ValsAt w F (l.drop k) (xs.drop (6 * k)) := by
  induction l generalizing xs k with
  | nil => simp only [ValsAt] at h; subst h; simp [ValsAt]
  | cons t l ih =>
    simp only [ValsAt] at h
    obtain ⟨c, r, rfl, h2, h3⟩ := h
    cases k with
    | zero => simp only [List.take_zero, Nat.mul_zero, List.drop_zero, ValsAt]; exact ⟨trivial, c, r, rfl, h2, h3⟩
    | succ k =>
      have hc := h2.length
      obtain ⟨i1, i2⟩ := ih h3 k
      simp only [List.take_succ_cons, List.drop_succ_cons, ValsAt]
      rw [List.take_append, List.drop_append, hc, show 6 * (k + 1) - 6 = 6 * k from by omega, List.take_of_length_le (by omega : c.length ≤ 6 * (k + 1)), List.drop_of_length_le (by omega : c.length ≤ 6 * (k + 1)), List.nil_append]
      exact ⟨⟨c, _, rfl, h2, i1⟩, i2⟩

theorem ValsAt.append {w : World} {F : Nat → Prop} {l m : List Tr} {xs ys : List Value} (h : ValsAt w F l xs) (k : ValsAt w F m ys) : ValsAt w F (l ++ m) (xs ++ ys) := by
  induction l generalizing xs with
  | nil => simp only [ValsAt] at h; subst h; simpa using k
  | cons t l ih =>
    simp only [ValsAt] at h
    obtain ⟨c, r, rfl, h2, h3⟩ := h
    simp only [List.cons_append, ValsAt]
    exact ⟨c, r ++ ys, by simp, h2, ih h3⟩

theorem ValAt.ones {w : World} {F : Nat → Prop} {t : Tr} {cs : List Value} (h : ValAt w F t cs) : ∀ u ∈ cs, u.oneCell' = true := by
  obtain ⟨_, _, _, _, _, rfl, _⟩ := h.uni
  intro u hu
  simp only [vC, List.mem_cons, List.not_mem_nil, or_false] at hu
  rcases hu with rfl | rfl | rfl | rfl | rfl | rfl <;> rfl

theorem ValsAt.ones {w : World} {F : Nat → Prop} {l : List Tr} {xs : List Value} (h : ValsAt w F l xs) : ∀ u ∈ xs, u.oneCell' = true := by
  induction l generalizing xs with
  | nil => simp only [ValsAt] at h; subst h; intro u hu; cases hu
  | cons t l ih =>
    simp only [ValsAt] at h
    obtain ⟨c, r, rfl, h2, h3⟩ := h
    intro u hu
    rcases List.mem_append.1 hu with hu | hu
    · exact h2.ones u hu
    · exact ih h3 u hu

theorem litK (w : World) (e : TypeId) (sz : Nat) : LstK (w.alloc (.cells #[] e)) (.slice (some ⟨w.heap.size, 0, none⟩) 0 0) e sz 0 [] := World.ownsRow_made w #[] 0 (Nat.zero_le _) (Nat.zero_le _) (by simp)

theorem numB_norm {b : Nat} (h : b < 18446744073709551616) : numB b = normB b := by
  unfold numB normB Fl.rung
  split <;> split <;> omega

theorem LstK.popK {w : World} {a : Option Addr} {n cap sz : Nat} {e : TypeId} {xs : List Value} (h : LstK w (.slice a n cap) e sz n xs) (k : Nat) (hk : k ≤ n) : LstK w (.slice a k cap) e sz k (xs.take (k * sz)) := by
  have hkz : k * sz ≤ n * sz := Nat.mul_le_mul_right _ hk
  refine ⟨by rw [List.length_take, h.1]; omega, ?_⟩
  rcases h.2 with ⟨h1, h2⟩ | ⟨g, cap', cur, hv, hb, hg, h3, h4, h5, h6⟩
  · injection h1 with h1 h2' h3'
    subst h1; subst h3'
    have : k = 0 := by omega
    subst this
    exact .inl ⟨rfl, rfl⟩
  · injection hv with hv hv2 hv3
    subst hv; subst hv3
    refine .inr ⟨g, cap, cur, rfl, hb, hg, by omega, h4, h5, ?_⟩
    rw [← h6, List.take_take]
    congr 1
    omega

def RDoOk (F : Nat → Prop) (l' : List Tr) (rv : Value) (w : World) (e : Ending) (w' : World) : Prop :=
  (∃ (rv' : Value) (F' : Nat → Prop), e = .returned (.tuple #[rv', .int .i64 0]) ∧ RowV w' F' rv' l' ∧ (∀ g, rv'.ownBlock = some g → rv.ownBlock = some g ∨ w.heap.size ≤ g) ∧ ∀ b, F' b → F b ∨ w.heap.size ≤ b) ∧ Chg w w' rv.ownBlock.toList

def RDoPost (F : Nat → Prop) (l : List Tr) (s : StepI) (rv : Value) (w : World) (e : Ending) (w' : World) : Prop :=
  if (szT (madeOf s l)).within = true then RDoOk F (doT l s) rv w e w' else RDoNo w e w'

theorem made_sz {l : List Tr} {s : StepI} (hf : Fits l) (hl : l.length ≤ 65536) (hb : StepB s) (hok : okS s = true) (hn : nOf s ≤ l.length) :
    (szT (madeOf s l)).nodes ≤ 1099511627776 ∧ (szT (madeOf s l)).bytes ≤ 1152921504606846976 ∧ (szT (madeOf s l)).depth ≤ 1099511627776 := by
  obtain ⟨hu, _, _, _, hnd⟩ := okS_iff.1 hok
  have hus := used_iff hu
  have h1 := (hf.drop (l.length - nOf s)).sum
  have h2 : (l.drop (l.length - nOf s)).length ≤ 65536 := by rw [List.length_drop]; omega
  have h3 := hb.text
  have h4 := hb.sum
  have h5 : (l.drop (l.length - nOf s)).length * 65536 ≤ 65536 * 65536 := Nat.mul_le_mul_right _ h2
  have h6 : (l.drop (l.length - nOf s)).length * 2097152 ≤ 65536 * 2097152 := Nat.mul_le_mul_right _ h2
  unfold madeOf treeOf
  split
  · simp [szT]
  · split
    · simp [szT]
    · split
      · simp [szT]
      · split
        · simp [szT]; omega
        · split
          · simp only [szT, Sz.over]; omega
          · rename_i g5
            have h7 : s.count = 0 := Decidable.byContradiction fun g => g5 (hus.2.2.2.2.2.2.1 g)
            have h8 : s.keys.length = (l.drop (l.length - nOf s)).length := by rw [List.length_drop]; unfold nOf at *; rw [h7] at *; simp at *; omega
            rw [szT_objT hnd h8]
            simp only [Sz.over]
            omega

theorem rdo_no {F : Nat → Prop} {l : List Tr} {s : StepI} {rv : Value} {w w' : World} {v : Value} {k : Int} (hw : (szT (madeOf s l)).within = false) (hk : k ≠ 0) (hg : Chg w w' []) : RDoPost F l s rv w (.returned (.tuple #[v, .int .i64 k])) w' := by
  unfold RDoPost
  rw [if_neg (by simp [hw])]
  exact ⟨⟨v, k, hk, rfl⟩, hg⟩

theorem rdo_fin {l : List Tr} {s : StepI} {F F2 : Nat → Prop} {ra : Option Addr} {rc D g cap : Nat} {xs cs : List Value} {w wy w7 : World} (hw : (szT (madeOf s l)).within = true)
    (hX : LstK w (.slice ra l.length rc) 42 6 l.length xs) (hV : ValsAt w F l xs) (hF : ∀ b, F b → b < w.heap.size) (hO : ∀ g, (Value.slice ra l.length rc).ownBlock = some g → ¬ F g) (hD : D = l.length - nOf s)
    (hg : Chg w wy []) (hv : ValAt wy F2 (madeOf s l) cs) (hF2 : ∀ b, F2 b → b < wy.heap.size) (hF2n : ∀ b, F2 b → F b ∨ w.heap.size ≤ b)
    (h7 : LstK w7 (.slice (some ⟨g, 0, none⟩) (D + 1) cap) 42 6 (D + 1) (xs.take (D * 6) ++ cs)) (hC : Chg wy w7 (Value.slice ra D rc).ownBlock.toList) (hG : (Value.slice ra D rc).ownBlock = some g ∨ wy.heap.size ≤ g) :
    RDoPost F l s (.slice ra l.length rc) w (.returned (.tuple #[.slice (some ⟨g, 0, none⟩) (D + 1) cap, .int .i64 0])) w7 := by
  unfold RDoPost
  rw [if_pos hw]
  have e1 : (Value.slice ra D rc).ownBlock = (Value.slice ra l.length rc).ownBlock := by cases ra <;> rfl
  rw [e1] at hC hG
  have hlt : ∀ g, (Value.slice ra l.length rc).ownBlock = some g → g < w.heap.size := fun g h => hX.lt h
  have hz := hg.size
  have hdl : (doT l s).length = D + 1 := by unfold doT; rw [List.length_append, List.length_take, List.length_singleton, ← hD]; omega
  refine ⟨⟨_, fun b => F b ∨ F2 b, rfl, ⟨xs.take (D * 6) ++ cs, ?_, ?_, ?_, ?_⟩, ?_, fun b hb => hb.elim .inl (hF2n b)⟩, (hg.none _).trans hC⟩
  · rw [hdl]; exact h7
  · unfold doT
    rw [← hD]
    refine ValsAt.append ?_ ?_
    · have := (hV.split D).1
      rw [show D * 6 = 6 * D from Nat.mul_comm _ _]
      exact ValsAt.kept (((hg.none _).trans hC).keepsF hF fun b hb => hO b (by simpa using hb)) (fun _ h => .inl h) _ _ this
    · simp only [ValsAt]
      refine ⟨cs, [], by simp, ValAt.kept (hC.keepsF hF2 fun b hb h2 => ?_) (fun _ h => .inr h) _ _ hv, rfl⟩
      have h3 := hlt b (by simpa using hb)
      rcases hF2n b h2 with h4 | h4
      · exact hO b (by simpa using hb) h4
      · omega
  · intro b hb
    have := hC.size
    rcases hb with h | h
    · have := hF b h; omega
    · have := hF2 b h; omega
  · intro b hb hfb
    simp [Value.ownBlock] at hb; subst hb
    rcases hG with h | h
    · have h3 := hlt _ h
      rcases hfb with h4 | h4
      · exact hO _ h h4
      · rcases hF2n _ h4 with h5 | h5
        · exact hO _ h h5
        · omega
    · rcases hfb with h4 | h4
      · have := hF _ h4; omega
      · have := hF2 _ h4; omega
  · intro b hb
    simp [Value.ownBlock] at hb; subst hb
    rcases hG with h | h
    · exact .inl h
    · exact .inr (by omega)

set_option maxRecDepth 100000 in
set_option maxHeartbeats 4000000 in
theorem r10_Do_ok (l : List Tr) (F : Nat → Prop) (rv : Value) (s : StepI) (sk : Value) (w : World) (hR : RowV w F rv l) (hK : RowC w sk 1 s.keys.length (strs s.keys)) (hb : StepB s) (hf : Fits l) (hl : l.length ≤ 65536) (hok : okS s = true) (hn : nOf s ≤ l.length) :
    Calls Tryz.prog 40 #[rv, .agg #[.int .i64 s.sort, .bool s.flag, .int .u64 s.bits, .string s.text, .int .i64 s.count, sk]] w (RDoPost F l s rv w) := by
  obtain ⟨xs, hX, hV, hF, hO⟩ := hR
  have hr := hX.form
  obtain ⟨ra, rc, rfl, hra⟩ := hr
  obtain ⟨ka, kc, rfl, hkc, _⟩ := hK.form
  have hks : ∀ wx, Chg w wx [] → RowC wx (.slice ka s.keys.length kc) 1 s.keys.length (strs s.keys) := fun wx h => hK.kept h
  obtain ⟨w0, hw0⟩ : ∃ x, x = w.alloc (.cells #[.int .i64 s.sort, .bool s.flag, .int .u64 s.bits, .string s.text, .int .i64 s.count, .slice ka s.keys.length kc] 50) := ⟨_, rfl⟩
  have HG0 : Hid (Chg w w0 []) := by rw [hw0]; exact Lib.hid ((Chg.refl w []).alloc _)
  have HB0 : Hid (Blk w0 w.heap.size [.int .i64 s.sort, .bool s.flag, .int .u64 s.bits, .string s.text, .int .i64 s.count, .slice ka s.keys.length kc] 50) := by rw [hw0]; exact Lib.hid (Blk.new w _ _)
  obtain ⟨z1, z2, z3, z4, z5, z6, z7, z8⟩ := Blk.cells6 HB0.out
  have hcnt := hb.count
  have HC : Hid (Chk s ka s.keys.length kc w0 w.heap.size (Fl.finB s.bits) (Utf.rightB s.text) (s.keys.all Utf.rightB) (!decide s.keys.Nodup)) := Lib.hid
    { cells := fun wx h => HB0.out.kept h (by simp)
      fin := fun wx => r10_finite s.bits hb.bits wx
      text := fun wx => r3_Right s.text wx hb.text
      keys := fun wx h => r10_right (fun _ => True) _ s.keys wx (hks wx (HG0.out.trans h)).rowAt hb.size (by have := hb.keys; omega)
      twice := fun hk wx h => r10_twice s.keys _ wx (hks wx (HG0.out.trans h)) (fun x hx => ⟨List.all_eq_true.1 hk x hx, hb.size x hx⟩) (by have := hb.keys; omega) }
  have HW := Lib.hid hw0
  have hkl := hb.keys
  have hok0 := hok
  have hok' := okS_iff.1 hok
  obtain ⟨hu, hfin, htx, hky, hnd⟩ := hok'
  have hus := used_iff hu
  have hxl : xs.length = l.length * 6 := by rw [hV.length]; omega
  have hcap := hX.capLe
  rw [show Fl.finB s.bits = (if s.sort = 3 then true else Fl.finB s.bits) from by split; (rename_i h; exact hfin h); rfl, htx, hky, show (!decide s.keys.Nodup) = false from by simp [hnd]] at HC
  obtain ⟨kn, hkn⟩ : ∃ x, x = s.keys.length := ⟨_, rfl⟩
  obtain ⟨N, hN⟩ : ∃ N, N = nOf s := ⟨_, rfl⟩
  have hNe : s.count + (kn : Int) = (N : Int) := by rw [hN, hkn]; unfold nOf; have := hus.2.2.1; omega
  rw [← hN] at hn
  obtain ⟨D, hD⟩ : ∃ D, D = l.length - N := ⟨_, rfl⟩
  have hD1 : l.length - D = N := by omega
  have hD2 : (l.length : Int) - (N : Int) = (D : Int) := by omega
  have HU := Lib.hid hu
  have HX := Lib.hid hX
  have HV := Lib.hid hV
  have HF := Lib.hid hF
  have HO := Lib.hid hO
  have HKS := Lib.hid hks
  have HB := Lib.hid hb
  have HUS := Lib.hid hus
  have HFT := Lib.hid hf
  have HKY := Lib.hid hky
  have HND := Lib.hid hnd
  have HKN := Lib.hid hkn
  have HN := Lib.hid hN
  have HDD := Lib.hid hD
  rw [← hkn] at HC HU HW HB0 z8 hkl hkc ⊢
  have z9 : IntKind.i64.wrap (N : Int) = (N : Int) := IntWalk.i64_in _ (by omega)
  have z10 : IntKind.i64.wrap (D : Int) = (D : Int) := IntWalk.i64_in _ (by omega)
  have z11 : (N : Int) ≤ (l.length : Int) := by omega
  have z12 : D ≤ l.length := by omega
  have z13 : D ≤ rc := by omega
  have z14 : (D : Int) ≤ (rc : Int) := by omega
  have z15 : (0 : Int) ≤ (D : Int) := by omega
  have z16 : l.length ≤ rc := hcap.2
  have hz0 : w0.heap.size = w.heap.size + 1 := by rw [hw0]; simp
  have HZ0 := Lib.hid hz0
  clear hX hV hF hO hks hb hus hf hky hnd hkn hN hu hfin htx hok hw0 hK hcap hra hD hz0
  have HOK := Lib.hid hok0
  have HDN : Hid (D = l.length - nOf s) := by unfold Hid; rw [← HN.out]; exact HDD.out
  have HNN : Hid (nOf s ≤ l.length) := by unfold Hid; rw [← HN.out]; exact hn
  obtain ⟨ti, hti, _⟩ := info_parts info_valz
  have HXO : Hid (∀ u ∈ xs, u.oneCell' = true) := Lib.hid (ValsAt.ones HV.out)
  by_cases h5 : s.sort = 5
  · skip
    have h6 : ¬ s.sort = 6 := by omega
    have h3 : ¬ s.sort = 3 := by omega
    have h9 : s.keys = [] := Decidable.byContradiction fun g => h6 (HUS.out.2.2.2.2.2.2.2 g)
    have hbits : s.bits = 0 := Decidable.byContradiction fun h => h3 (HUS.out.2.2.2.2.1 h)
    have hfl : s.flag = false := by
      cases h : s.flag with
      | false => rfl
      | true => have := HUS.out.2.2.2.1 h; omega
    have htx : s.text = noB := Decidable.byContradiction fun h => by have := HUS.out.2.2.2.2.2.1 h; omega
    have HM5 : Hid (madeOf s l = .list (l.drop D) ∧ s.sort = 5 ∧ s.flag = false ∧ s.text = noB) := by
      unfold Hid madeOf treeOf
      rw [← HN.out, ← HDD.out, if_neg (by omega), if_neg (by omega), if_neg h3, if_neg (by omega), if_pos h5]
      exact ⟨rfl, h5, hfl, htx⟩
    have d3 : (s.sort == 3) = false := by simp [h3]
    have d5 : (s.sort == 5) = true := by simp [h5]
    have d6 : (s.sort == 6) = false := by simp [h6]
    rw [if_neg h3] at HC
    clear h5 h6 h3 h9 hbits hfl htx
    go_enter Tryz.func40, Tryz.ntmps40
    go_upto_region 1 with (fail)
    rw [← HW.out]
    go_upto_region 12 with ((first
          | (go_at_call 63; refine (r10_Used s.sort s.flag s.bits s.text s.count ka kn kc _).mono ?_; rintro e w1 ⟨rfl, hgA⟩; rw [HU.out]; obtain ⟨a1, a2, a3, a4, a5, a6, a7, a8⟩ := Blk.cells6 (HC.out.cells _ hgA))
          | (go_at_call 64; refine (HC.out.fin _).mono ?_; rintro e w2 ⟨rfl, hb⟩; have hgB := hgA.trans hb; obtain ⟨b1, b2, b3, b4, b5, b6, b7, b8⟩ := Blk.cells6 (HC.out.cells _ hgB))
          | (go_at_call 47; refine (HC.out.text _).mono ?_; rintro e w3 ⟨rfl, rfl⟩)
          | (go_at_call 65; refine (HC.out.keys _ (by first | exact hgB | exact hgA)).mono ?_; rintro e w4 ⟨rfl, hc⟩; have hgC : Chg w0 w4 [] := (by first | exact hgB.trans hc | exact hgA.trans hc); obtain ⟨c1, c2, c3, c4, c5, c6, c7, c8⟩ := Blk.cells6 (HC.out.cells _ hgC))
          | (go_at_call 66; refine (HC.out.twice rfl _ hgC).mono ?_; rintro e w5 ⟨rfl, hd⟩; have hgD := hgC.trans hd; obtain ⟨d1, d2, d3, d4, d5, d6, d7, d8⟩ := Blk.cells6 (HC.out.cells _ hgD))))
    go_upto_region 13 with (fail)
    obtain ⟨wq, hwq⟩ : ∃ x, x = w5.alloc (.cells #[.int .i64 s.sort, .bool s.flag, .int .u64 0, .string s.text, .slice none 0 0, .slice none 0 0] 42) := ⟨_, rfl⟩
    have HQ : Hid (Blk wq w5.heap.size (vC s.sort s.flag 0 s.text (.slice none 0 0) (.slice none 0 0)) 42) := by rw [hwq]; exact Lib.hid (Blk.new w5 _ _)
    have HGQ : Hid (Chg w0 wq []) := by rw [hwq]; exact Lib.hid (hgD.alloc _)
    have hqz : wq.heap.size = w5.heap.size + 1 := by rw [hwq]; simp
    have hq5 : w0.heap.size ≤ w5.heap.size := hgD.size
    rw [← hwq]
    obtain ⟨q, hq⟩ : ∃ q, q = w5.heap.size := ⟨_, rfl⟩
    rw [← hq] at HQ hqz hq5 ⊢
    have HQZ := Lib.hid hqz
    have HQ5 := Lib.hid hq5
    obtain ⟨q1, q2, q10, q11, q12, q13, q14, q15⟩ := Blk.cells6 HQ.out
    obtain ⟨s1, s2, s10, s11, s12, s13, s14, s15⟩ := Blk.cells6 (HC.out.cells _ HGQ.out)
    clear hwq hq hqz hq5
    go_upto_region 15 with (fail)
    go_cut [8] from 8 (fun s8 wx => ∃ (ta : Option Addr) (tc : Nat) (us : List Value) (F2 : Nat → Prop), s8 = .slice ta N tc ∧ RowC wx (.slice ta N tc) 6 N us ∧ RowN wx F2 ta us ∧ ValsAt wx F2 (l.drop D) us ∧ (∀ b, F2 b → b < wx.heap.size) ∧ (∀ b, F2 b → F b ∨ wq.heap.size ≤ b) ∧ Chg wq wx [])
    case first =>
      have hvd := ValsAt.kept ((HG0.out.trans HGQ.out).keepsF HF.out (by simp)) (fun _ h => h) _ _ (HV.out.split D).2
      have HVD := Lib.hid hvd
      have hww : w.heap.size ≤ wq.heap.size := (HG0.out.trans HGQ.out).size
      have HXQ := Lib.hid (HX.out.kept (HG0.out.trans HGQ.out) (by simp))
      clear hvd
      by_cases hn0 : N = 0
      · have hdl : l.drop D = [] := List.drop_of_length_le (by omega)
        have HDL := Lib.hid hdl
        have hD0 : D = l.length := by omega
        clear hdl
        subst hn0
        subst hD0
        have z20 : l.length - l.length = 0 := by omega
        rcases Decidable.em (rc = l.length) with hrc | hrc
        · subst hrc
          go_wp2_with (first | (at_builtin; refine wpList_append_void rfl _ _ _ rfl 42 ti Tryz.underlying39 hti _ 0 0 (Nat.le_refl _) (by rfl) _ _ (by rfl) ?_))
          go_meet
          exact ⟨_, _, [], F, rfl, ⟨_, _, rfl, Nat.zero_le _, rfl, fun i v hv => by simp at hv⟩, .inl rfl, by rw [HDL.out]; simp [ValsAt], fun b hb => by have := HF.out b hb; have := hww; simp; omega, fun b hb => .inl hb, (Chg.refl _ _).alloc _⟩
        · skip
          go_wp2_with (first | (at_builtin; refine wpList_append_void rfl _ _ _ rfl 42 ti Tryz.underlying39 hti _ 0 0 (Nat.le_refl _) (by rfl) _ _ (by rfl) ?_))
          go_meet
          exact ⟨_, _, [], F, rfl, ⟨_, _, rfl, Nat.zero_le _, rfl, fun i v hv => by simp at hv⟩, .inl rfl, by rw [HDL.out]; simp [ValsAt], fun b hb => by have := HF.out b hb; have := hww; simp; omega, fun b hb => .inl hb, (Chg.refl _ _).alloc _⟩
      · have hnp : 0 < N := by omega
        obtain ⟨a', c', e', ha'⟩ := HXQ.out.form
        injection e' with e1 _ e3
        subst e1; subst e3
        obtain ⟨g, rfl⟩ := ha' (by omega)
        have hul : (xs.drop (D * 6)).length = N * 6 := by rw [List.length_drop, hxl]; omega
        have hone : ∀ u ∈ xs.drop (D * 6), u.oneCell' = true := fun u hu => HXO.out u (List.mem_of_mem_drop hu)
        have HXC : Hid (∀ j v, (xs.drop (D * 6))[j]? = some v → (wq.alloc (.cells #[] 42)).cell? ⟨g, D * 6 + j, none⟩ = some v) := Lib.hid fun j v hv => ((Chg.refl wq []).alloc _).keeps (HXQ.out.cell rfl _ v (by rw [← List.getElem?_drop]; exact hv))
        have HUL := Lib.hid hul
        have HONE := Lib.hid hone
        have z21 : ¬ rc = D := by omega
        clear ha' hul hone hn0
        go_wp2_with (first
          | (at_builtin; go_loud (refine wpList_appendO rfl _ _ _ rfl 42 zVal 6 88 (by decide) Tryz.underlying39 info_valz rfl _ 0 [] (by rfl) (by exact litK wq _ 6) g (D * 6) N (rc - D) (xs.drop (D * 6)) (by rfl) hnp HUL.out HXC.out HONE.out (by omega) (by omega) ?_; intro g3 cap3 w3 hL3 hC3 hG3)))
        go_meet
        have hgn : wq.heap.size ≤ g3 := by
          rcases hG3 with h | h
          · have : wq.heap.size = g3 := (by injection h)
            omega
          · simp at h; omega
        have hc3 : Chg wq w3 [] := Chg.own (sv := .slice none 0 0) ((Chg.refl wq []).alloc _) hC3 (fun g hg => by cases hg) (fun g hg => .inr (by have : wq.heap.size = g := (by injection hg); omega))
        rw [List.nil_append] at hL3
        have hL3' : LstK w3 (.slice (some ⟨g3, 0, none⟩) N cap3) 42 6 N (xs.drop (D * 6)) := by simpa using hL3
        refine ⟨_, _, xs.drop (D * 6), fun b => F b ∨ b = g3, by simp, hL3'.rowC HUL.out, hL3'.rowN HUL.out (fun g hg => by simp [Value.ownBlock] at hg; exact .inr hg.symm), ?_, ?_, ?_, hc3⟩
        · have := ValsAt.kept (hc3.keepsF (fun b hb => Nat.lt_of_lt_of_le (HF.out b hb) hww) (by simp)) (fun b hb => (.inl hb : F b ∨ b = g3)) _ _ HVD.out
          rwa [Nat.mul_comm] at this
        · rintro b (hb | hb)
          · have := HF.out b hb; have := hc3.size; omega
          · subst hb; exact hL3'.lt rfl
        · rintro b (hb | hb)
          · exact .inl hb
          · exact .inr (by omega)
    case rest =>
      obtain ⟨ta, tc, us, F2, rfl, hTR, hTN, hTV, hTF, hTF2, hTC⟩ := hcut
      obtain ⟨wt, hwt⟩ : ∃ x, x = wc := ⟨_, rfl⟩
      rw [← hwt] at hTR hTN hTV hTF hTC ⊢
      have HQT := Lib.hid (HQ.out.kept hTC (by simp))
      have HGT := Lib.hid (HGQ.out.trans hTC)
      obtain ⟨p1', p2', p10', p11', p12', p13', p14', p15'⟩ := Blk.cells6 HQT.out
      obtain ⟨s1', s2', s10', s11', s12', s13', s14', s15'⟩ := Blk.cells6 (HC.out.cells _ HGT.out)
      have HTR := Lib.hid hTR
      have HTN := Lib.hid hTN
      have HTV := Lib.hid hTV
      have HTF := Lib.hid hTF
      have HTF2 := Lib.hid hTF2
      have HTC := Lib.hid hTC
      have hqF2 : ¬ F2 q := fun h => by
        have h1 := HQZ.out
        have h2 := HQ5.out
        have h3 := HZ0.out
        rcases HTF2.out q h with h4 | h4
        · have := HF.out q h4; omega
        · omega
      have HQF2 := Lib.hid hqF2
      have hww : w.heap.size ≤ wq.heap.size := (HG0.out.trans HGQ.out).size
      clear hTR hTN hTV hTF hTF2 hTC hwt hqF2
      go_upto_region 20 with (fail)
      obtain ⟨wy, hwy⟩ : ∃ x, x = wt.setCell ⟨q, 4, none⟩ (.slice ta N tc) := ⟨_, rfl⟩
      rw [← hwy]
      have hcy : Chg wt wy [q] := by rw [hwy]; exact (Chg.refl _ _).setCell _ _ (by simp)
      have HGY : Hid (Chg w0 wy []) := Lib.hid (HGT.out.step hcy (fun i hi hlt => by simp at hi; have := HQ5.out; omega))
      have HY : Hid (Blk wy q [.int .i64 s.sort, .bool s.flag, .int .u64 0, .string s.text, .slice ta N tc, .slice none 0 0] 42) := by rw [hwy]; exact Lib.hid ((HQT.out.set 4 _).eq rfl)
      have HF2 : Hid (∀ b, F2 b → b < wy.heap.size) := Lib.hid fun b hb => Nat.lt_of_lt_of_le (HTF.out b hb) hcy.size
      have HF2N : Hid (∀ b, F2 b → F b ∨ w.heap.size ≤ b) := Lib.hid fun b hb => (HTF2.out b hb).imp_right fun h => by omega
      have HVY : Hid (ValAt wy F2 (madeOf s l) [.int .i64 s.sort, .bool s.flag, .int .u64 0, .string s.text, .slice ta N tc, .slice none 0 0]) := by
        have hk : Keeps F2 wt wy := hcy.keepsF HTF.out (fun b hb h => by simp at hb; subst hb; exact HQF2.out h)
        unfold Hid
        rw [HM5.out.1, HM5.out.2.1, HM5.out.2.2.1, HM5.out.2.2.2]
        simp only [ValAt]
        refine ⟨ta, tc, none, 0, us, ?_, HTN.out.kept hk (fun _ h => h), ValsAt.kept hk (fun _ h => h) _ _ HTV.out⟩
        rw [List.length_drop, show l.length - D = N from hD1]; rfl
      clear hwy hcy
      have hms := made_sz (s := s) HFT.out hl HB.out HOK.out HNN.out
      have HMS := Lib.hid hms
      have hwy0 : w0.heap.size ≤ wy.heap.size := HGY.out.size
      have hxp := (HX.out.popK D z12).kept (HG0.out.trans HGY.out) (by simp)
      have HXP := Lib.hid hxp
      have HWI : Hid (∀ wx, Chg wy wx [] → Calls Tryz.prog 68 #[.agg ([.int .i64 s.sort, .bool s.flag, .int .u64 0, .string s.text, .slice ta N tc, .slice none 0 0] : List Value).toArray] wx fun e w' => e = .returned (.bool (szT (madeOf s l)).within) ∧ Chg wx w' []) := Lib.hid fun wx h =>
        r10_Within (madeOf s l) F2 _ wx HMS.out.1 HMS.out.2.1 HMS.out.2.2 (ValAt.kept (h.keepsF HF2.out (by simp)) (fun _ h => h) _ _ HVY.out) (fun b hb => Nat.lt_of_lt_of_le (HF2.out b hb) h.size)
      obtain ⟨y1, y2, y10, y11, y12, y13, y14, y15⟩ := Blk.cells6 HY.out
      clear hms hxp
      by_cases hwi : (szT (madeOf s l)).within = true
      · rw [hwi] at HWI
        go_upto_region 22 with (first | (go_at_call 68; refine (HWI.out _ (by (repeat (first | exact Chg.refl _ _ | with_reducible refine Chg.drewN ?_ _ | with_reducible refine Chg.drew ?_ | with_reducible refine Chg.alloc ?_ _ | with_reducible refine Chg.setCell ?_ _ _ (by simp) | with_reducible refine Chg.setCell ?_ _ _ (by simp; omega))))).mono ?_; rintro e wz ⟨rfl, hgz⟩; have HGZ := Lib.hid hgz; have HYZ := Lib.hid (HY.out.kept hgz (by simp)); obtain ⟨z1', z2', z10', z11', z12', z13', z14', z15'⟩ := Blk.cells6 HYZ.out; clear hgz))
        go_region_law (first
          | (go_loud (refine step_appendK rfl _ _ _ rfl 42 zVal 6 88 (by decide) Tryz.underlying39 info_valz rfl (.slice ra D rc) D (xs.take (D * 6)) (by rfl) (by exact (HXP.out.kept HGZ.out (by simp)).kept (bs := []) (by (repeat (first | exact Chg.refl _ _ | with_reducible refine Chg.drewN ?_ _ | with_reducible refine Chg.drew ?_ | with_reducible refine Chg.alloc ?_ _ | with_reducible refine Chg.setCell ?_ _ _ (by simp) | with_reducible refine Chg.setCell ?_ _ _ (by simp; omega)))) (by simp)) wz.heap.size [.int .i64 s.sort, .bool s.flag, .int .u64 0, .string s.text, .slice ta N tc, .slice none 0 0] (by rfl) (by rfl) (by exact cells_new' _ _ _) (by intro u hu; simp only [List.mem_cons, List.not_mem_nil, or_false] at hu; rcases hu with rfl | rfl | rfl | rfl | rfl | rfl <;> rfl) (by omega) (by omega) ?_; intro g8 cap8 w8 hL8 hC8 hG8; have HL8 := Lib.hid hL8; have HC8 := Lib.hid hC8; have HG8 := Lib.hid hG8; clear hL8 hC8 hG8)))
        all_goals
          go_wp2_with fail
          go_ret2
          have hz8 := HGZ.out.size
          exact rdo_fin hwi HX.out HV.out HF.out HO.out HDN.out (HG0.out.trans HGY.out) HVY.out HF2.out HF2N.out HL8.out (((HGZ.out.alloc _).drew.none _).trans HC8.out) (by
            rcases HG8.out with h | h
            · exact .inl h
            · simp at h; exact .inr (by omega))
      · have hwi' : (szT (madeOf s l)).within = false := by simpa using hwi
        rw [hwi'] at HWI
        clear hwi
        go_wp2_with (first | (go_at_call 68; refine (HWI.out _ (by (repeat (first | exact Chg.refl _ _ | with_reducible refine Chg.drewN ?_ _ | with_reducible refine Chg.drew ?_ | with_reducible refine Chg.alloc ?_ _ | with_reducible refine Chg.setCell ?_ _ _ (by simp) | with_reducible refine Chg.setCell ?_ _ _ (by simp; omega))))).mono ?_; rintro e wz ⟨rfl, hgz⟩))
        go_ret2
        exact rdo_no hwi' (by decide) ((HG0.out.trans HGY.out).trans hgz)
  · by_cases h6 : s.sort = 6
    · skip
      have h3 : ¬ s.sort = 3 := by omega
      have hcz : s.count = 0 := Decidable.byContradiction fun g => h5 (HUS.out.2.2.2.2.2.2.1 g)
      have HM6 : Hid (madeOf s l = objT s.keys (l.drop D)) := by
        unfold Hid madeOf treeOf
        rw [← HN.out, ← HDD.out, if_neg (by omega), if_neg (by omega), if_neg h3, if_neg (by omega), if_neg h5]
      have hNk : N = kn := by rw [HN.out]; unfold nOf; rw [hcz, HKN.out]; simp
      have d3 : (s.sort == 3) = false := by simp [h3]
      have d5 : (s.sort == 5) = false := by simp [h5]
      have d6 : (s.sort == 6) = true := by simp [h6]
      rw [if_neg h3] at HC
      have HNK := Lib.hid hNk
      clear h5 h6 h3 hcz hNk
      go_enter Tryz.func40, Tryz.ntmps40
      go_upto_region 1 with (fail)
      rw [← HW.out]
      go_upto_region 12 with ((first
            | (go_at_call 63; refine (r10_Used s.sort s.flag s.bits s.text s.count ka kn kc _).mono ?_; rintro e w1 ⟨rfl, hgA⟩; rw [HU.out]; obtain ⟨a1, a2, a3, a4, a5, a6, a7, a8⟩ := Blk.cells6 (HC.out.cells _ hgA))
            | (go_at_call 64; refine (HC.out.fin _).mono ?_; rintro e w2 ⟨rfl, hb⟩; have hgB := hgA.trans hb; obtain ⟨b1, b2, b3, b4, b5, b6, b7, b8⟩ := Blk.cells6 (HC.out.cells _ hgB))
            | (go_at_call 47; refine (HC.out.text _).mono ?_; rintro e w3 ⟨rfl, rfl⟩)
            | (go_at_call 65; refine (HC.out.keys _ (by first | exact hgB | exact hgA)).mono ?_; rintro e w4 ⟨rfl, hc⟩; have hgC : Chg w0 w4 [] := (by first | exact hgB.trans hc | exact hgA.trans hc); obtain ⟨c1, c2, c3, c4, c5, c6, c7, c8⟩ := Blk.cells6 (HC.out.cells _ hgC))
            | (go_at_call 66; refine (HC.out.twice rfl _ hgC).mono ?_; rintro e w5 ⟨rfl, hd⟩; have hgD := hgC.trans hd; obtain ⟨d1, d2, d3, d4, d5, d6, d7, d8⟩ := Blk.cells6 (HC.out.cells _ hgD))))
      go_upto_region 13 with (fail)
      obtain ⟨wq, hwq⟩ : ∃ x, x = w5.alloc (.cells #[.int .i64 s.sort, .bool s.flag, .int .u64 0, .string s.text, .slice none 0 0, .slice none 0 0] 42) := ⟨_, rfl⟩
      have HQ : Hid (Blk wq w5.heap.size (vC s.sort s.flag 0 s.text (.slice none 0 0) (.slice none 0 0)) 42) := by rw [hwq]; exact Lib.hid (Blk.new w5 _ _)
      have HGQ : Hid (Chg w0 wq []) := by rw [hwq]; exact Lib.hid (hgD.alloc _)
      have hqz : wq.heap.size = w5.heap.size + 1 := by rw [hwq]; simp
      have hq5 : w0.heap.size ≤ w5.heap.size := hgD.size
      rw [← hwq]
      obtain ⟨q, hq⟩ : ∃ q, q = w5.heap.size := ⟨_, rfl⟩
      rw [← hq] at HQ hqz hq5 ⊢
      have HQZ := Lib.hid hqz
      have HQ5 := Lib.hid hq5
      obtain ⟨q1, q2, q10, q11, q12, q13, q14, q15⟩ := Blk.cells6 HQ.out
      obtain ⟨s1, s2, s10, s11, s12, s13, s14, s15⟩ := Blk.cells6 (HC.out.cells _ HGQ.out)
      clear hwq hq hqz hq5
      go_upto_region 15 with (fail)
      go_cut [8] from 8 (fun s8 wx => ∃ (ta : Option Addr) (tc : Nat) (us : List Value) (F2 : Nat → Prop), s8 = .slice ta N tc ∧ RowC wx (.slice ta N tc) 6 N us ∧ RowN wx F2 ta us ∧ ValsAt wx F2 (l.drop D) us ∧ (∀ b, F2 b → b < wx.heap.size) ∧ (∀ b, F2 b → F b ∨ wq.heap.size ≤ b) ∧ Chg wq wx [])
      case first =>
        have hvd := ValsAt.kept ((HG0.out.trans HGQ.out).keepsF HF.out (by simp)) (fun _ h => h) _ _ (HV.out.split D).2
        have HVD := Lib.hid hvd
        have hww : w.heap.size ≤ wq.heap.size := (HG0.out.trans HGQ.out).size
        have HXQ := Lib.hid (HX.out.kept (HG0.out.trans HGQ.out) (by simp))
        clear hvd
        by_cases hn0 : N = 0
        · have hdl : l.drop D = [] := List.drop_of_length_le (by omega)
          have HDL := Lib.hid hdl
          have hD0 : D = l.length := by omega
          clear hdl
          subst hn0
          subst hD0
          have z20 : l.length - l.length = 0 := by omega
          rcases Decidable.em (rc = l.length) with hrc | hrc
          · subst hrc
            go_wp2_with (first | (at_builtin; refine wpList_append_void rfl _ _ _ rfl 42 ti Tryz.underlying39 hti _ 0 0 (Nat.le_refl _) (by rfl) _ _ (by rfl) ?_))
            go_meet
            exact ⟨_, _, [], F, rfl, ⟨_, _, rfl, Nat.zero_le _, rfl, fun i v hv => by simp at hv⟩, .inl rfl, by rw [HDL.out]; simp [ValsAt], fun b hb => by have := HF.out b hb; have := hww; simp; omega, fun b hb => .inl hb, (Chg.refl _ _).alloc _⟩
          · skip
            go_wp2_with (first | (at_builtin; refine wpList_append_void rfl _ _ _ rfl 42 ti Tryz.underlying39 hti _ 0 0 (Nat.le_refl _) (by rfl) _ _ (by rfl) ?_))
            go_meet
            exact ⟨_, _, [], F, rfl, ⟨_, _, rfl, Nat.zero_le _, rfl, fun i v hv => by simp at hv⟩, .inl rfl, by rw [HDL.out]; simp [ValsAt], fun b hb => by have := HF.out b hb; have := hww; simp; omega, fun b hb => .inl hb, (Chg.refl _ _).alloc _⟩
        · have hnp : 0 < N := by omega
          obtain ⟨a', c', e', ha'⟩ := HXQ.out.form
          injection e' with e1 _ e3
          subst e1; subst e3
          obtain ⟨g, rfl⟩ := ha' (by omega)
          have hul : (xs.drop (D * 6)).length = N * 6 := by rw [List.length_drop, hxl]; omega
          have hone : ∀ u ∈ xs.drop (D * 6), u.oneCell' = true := fun u hu => HXO.out u (List.mem_of_mem_drop hu)
          have HXC : Hid (∀ j v, (xs.drop (D * 6))[j]? = some v → (wq.alloc (.cells #[] 42)).cell? ⟨g, D * 6 + j, none⟩ = some v) := Lib.hid fun j v hv => ((Chg.refl wq []).alloc _).keeps (HXQ.out.cell rfl _ v (by rw [← List.getElem?_drop]; exact hv))
          have HUL := Lib.hid hul
          have HONE := Lib.hid hone
          have z21 : ¬ rc = D := by omega
          clear ha' hul hone hn0
          go_wp2_with (first
            | (at_builtin; go_loud (refine wpList_appendO rfl _ _ _ rfl 42 zVal 6 88 (by decide) Tryz.underlying39 info_valz rfl _ 0 [] (by rfl) (by exact litK wq _ 6) g (D * 6) N (rc - D) (xs.drop (D * 6)) (by rfl) hnp HUL.out HXC.out HONE.out (by omega) (by omega) ?_; intro g3 cap3 w3 hL3 hC3 hG3)))
          go_meet
          have hgn : wq.heap.size ≤ g3 := by
            rcases hG3 with h | h
            · have : wq.heap.size = g3 := (by injection h)
              omega
            · simp at h; omega
          have hc3 : Chg wq w3 [] := Chg.own (sv := .slice none 0 0) ((Chg.refl wq []).alloc _) hC3 (fun g hg => by cases hg) (fun g hg => .inr (by have : wq.heap.size = g := (by injection hg); omega))
          rw [List.nil_append] at hL3
          have hL3' : LstK w3 (.slice (some ⟨g3, 0, none⟩) N cap3) 42 6 N (xs.drop (D * 6)) := by simpa using hL3
          refine ⟨_, _, xs.drop (D * 6), fun b => F b ∨ b = g3, by simp, hL3'.rowC HUL.out, hL3'.rowN HUL.out (fun g hg => by simp [Value.ownBlock] at hg; exact .inr hg.symm), ?_, ?_, ?_, hc3⟩
          · have := ValsAt.kept (hc3.keepsF (fun b hb => Nat.lt_of_lt_of_le (HF.out b hb) hww) (by simp)) (fun b hb => (.inl hb : F b ∨ b = g3)) _ _ HVD.out
            rwa [Nat.mul_comm] at this
          · rintro b (hb | hb)
            · have := HF.out b hb; have := hc3.size; omega
            · subst hb; exact hL3'.lt rfl
          · rintro b (hb | hb)
            · exact .inl hb
            · exact .inr (by omega)
      case rest =>
        obtain ⟨ta, tc, us, F2, rfl, hTR, hTN, hTV, hTF, hTF2, hTC⟩ := hcut
        obtain ⟨wt, hwt⟩ : ∃ x, x = wc := ⟨_, rfl⟩
        rw [← hwt] at hTR hTN hTV hTF hTC ⊢
        have HQT := Lib.hid (HQ.out.kept hTC (by simp))
        have HGT := Lib.hid (HGQ.out.trans hTC)
        obtain ⟨p1', p2', p10', p11', p12', p13', p14', p15'⟩ := Blk.cells6 HQT.out
        obtain ⟨s1', s2', s10', s11', s12', s13', s14', s15'⟩ := Blk.cells6 (HC.out.cells _ HGT.out)
        have HTR := Lib.hid hTR
        have HTN := Lib.hid hTN
        have HTV := Lib.hid hTV
        have HTF := Lib.hid hTF
        have HTF2 := Lib.hid hTF2
        have HTC := Lib.hid hTC
        have hqF2 : ¬ F2 q := fun h => by
          have h1 := HQZ.out
          have h2 := HQ5.out
          have h3 := HZ0.out
          rcases HTF2.out q h with h4 | h4
          · have := HF.out q h4; omega
          · omega
        have HQF2 := Lib.hid hqF2
        have hww : w.heap.size ≤ wq.heap.size := (HG0.out.trans HGQ.out).size
        clear hTR hTN hTV hTF hTF2 hTC hwt hqF2
        have HMD : Hid (∀ wx, Chg wt wx [] → Calls Tryz.prog 67 #[.slice ka kn kc, .slice ta N tc] wx (MadePost F2 s.keys (l.drop D) wx)) := Lib.hid fun wx h => by
          have hlen : s.keys.length = (l.drop D).length := by rw [List.length_drop, ← HKN.out]; have := HNK.out; omega
          refine r10_Made F2 s.keys (l.drop D) _ _ us wx ?_ ?_ (ValsAt.kept (h.keepsF HTF.out (by simp)) (fun _ h => h) _ _ HTV.out) (fun b hb => Nat.lt_of_lt_of_le (HTF.out b hb) h.size) (fun k hk => ⟨List.all_eq_true.1 HKY.out k hk, HB.out.size k hk⟩) HND.out hlen (by rw [← HKN.out]; have := HNK.out; omega)
          · have := HKS.out wx ((HG0.out.trans HGT.out).trans h)
            rw [← HKN.out] at this ⊢; exact this
          · rw [← hlen, ← HKN.out, ← HNK.out]; exact HTR.out.kept h
        go_upto_region 20 with (first
          | (go_at_call 67; refine (HMD.out _ (Chg.refl _ _)).mono ?_; rintro e wm ⟨F3, cs3, rfl, hm1, hm2, hm3, hm4, hm5⟩; unfold objT at hm4; have hm6 := hm4; simp only [ValAt] at hm6; obtain ⟨la3, lc3, ka3, kc3, xs3, rfl, _⟩ := hm6; obtain ⟨n1, hn1⟩ : ∃ x, x = (objL s.keys (l.drop D)).length := ⟨_, rfl⟩; obtain ⟨n2, hn2⟩ : ∃ x, x = (sortK s.keys).length := ⟨_, rfl⟩; rw [← hn1, ← hn2] at hm4 ⊢; rw [vC_arr]; clear hn1 hn2; have HM1 := Lib.hid hm1; have HM2 := Lib.hid hm2; have HM3 := Lib.hid hm3; have HM4 := Lib.hid hm4; have HM5 := Lib.hid hm5; have HQM := Lib.hid (HQT.out.kept hm5 (by simp)); clear hm1 hm2 hm3 hm4 hm5)
          | (refine wpList_store_blk rfl _ _ _ rfl q (vC 6 false 0 noB (.slice la3 n1 lc3) (.slice ka3 n2 kc3)) (by rfl) (by rfl) _ _ HQM.out info_val rfl (by intro u hu; simp only [vC, List.mem_cons, List.not_mem_nil, or_false] at hu; rcases hu with rfl | rfl | rfl | rfl | rfl | rfl <;> rfl) ?_; intro wy hz7 hB7 hC7; have HB7 := Lib.hid hB7; have HC7 := Lib.hid hC7; clear hB7 hC7 hz7))
        have HGY : Hid (Chg w0 wy []) := Lib.hid ((HGT.out.trans HM5.out).step HC7.out (fun i hi hlt => by simp at hi; have := HQ5.out; omega))
        have HY : Hid (Blk wy q [.int .i64 6, .bool false, .int .u64 0, .string ⟨#[]⟩, .slice la3 n1 lc3, .slice ka3 n2 kc3] 42) := Lib.hid (HB7.out.eq rfl)
        have hqt : q < wt.heap.size := p1'
        have HF2 : Hid (∀ b, F3 b → b < wy.heap.size) := Lib.hid fun b hb => Nat.lt_of_lt_of_le (HM3.out b hb) HC7.out.size
        have hwt : wq.heap.size ≤ wt.heap.size := HTC.out.size
        have HF2N : Hid (∀ b, F3 b → F b ∨ w.heap.size ≤ b) := Lib.hid fun b hb => by
          by_cases hlt : b < wt.heap.size
          · exact (HTF2.out b (HM2.out b hb hlt)).imp_right fun h => by omega
          · exact .inr (by omega)
        have HVY : Hid (ValAt wy F3 (madeOf s l) [.int .i64 6, .bool false, .int .u64 0, .string ⟨#[]⟩, .slice la3 n1 lc3, .slice ka3 n2 kc3]) := by
          unfold Hid
          rw [HM6.out]
          exact ValAt.kept (HC7.out.keepsF HM3.out (fun b hb h => by simp at hb; subst hb; exact HQF2.out (HM2.out _ h hqt))) (fun _ h => h) _ _ HM4.out
        obtain ⟨F2', hF2'⟩ : ∃ x, x = F3 := ⟨_, rfl⟩
        clear p1' p2' p10' p11' p12' p13' p14' p15'
        have hms := made_sz (s := s) HFT.out hl HB.out HOK.out HNN.out
        have HMS := Lib.hid hms
        have hwy0 : w0.heap.size ≤ wy.heap.size := HGY.out.size
        have hxp := (HX.out.popK D z12).kept (HG0.out.trans HGY.out) (by simp)
        have HXP := Lib.hid hxp
        have HWI : Hid (∀ wx, Chg wy wx [] → Calls Tryz.prog 68 #[.agg ([.int .i64 6, .bool false, .int .u64 0, .string ⟨#[]⟩, .slice la3 n1 lc3, .slice ka3 n2 kc3] : List Value).toArray] wx fun e w' => e = .returned (.bool (szT (madeOf s l)).within) ∧ Chg wx w' []) := Lib.hid fun wx h =>
          r10_Within (madeOf s l) F3 _ wx HMS.out.1 HMS.out.2.1 HMS.out.2.2 (ValAt.kept (h.keepsF HF2.out (by simp)) (fun _ h => h) _ _ HVY.out) (fun b hb => Nat.lt_of_lt_of_le (HF2.out b hb) h.size)
        obtain ⟨y1, y2, y10, y11, y12, y13, y14, y15⟩ := Blk.cells6 HY.out
        clear hms hxp
        by_cases hwi : (szT (madeOf s l)).within = true
        · rw [hwi] at HWI
          go_upto_region 22 with (first | (go_at_call 68; refine (HWI.out _ (by (repeat (first | exact Chg.refl _ _ | with_reducible refine Chg.drewN ?_ _ | with_reducible refine Chg.drew ?_ | with_reducible refine Chg.alloc ?_ _ | with_reducible refine Chg.setCell ?_ _ _ (by simp) | with_reducible refine Chg.setCell ?_ _ _ (by simp; omega))))).mono ?_; rintro e wz ⟨rfl, hgz⟩; have HGZ := Lib.hid hgz; have HYZ := Lib.hid (HY.out.kept hgz (by simp)); obtain ⟨z1', z2', z10', z11', z12', z13', z14', z15'⟩ := Blk.cells6 HYZ.out; clear hgz))
          go_region_law (first
            | (go_loud (refine step_appendK rfl _ _ _ rfl 42 zVal 6 88 (by decide) Tryz.underlying39 info_valz rfl (.slice ra D rc) D (xs.take (D * 6)) (by rfl) (by exact (HXP.out.kept HGZ.out (by simp)).kept (bs := []) (by (repeat (first | exact Chg.refl _ _ | with_reducible refine Chg.drewN ?_ _ | with_reducible refine Chg.drew ?_ | with_reducible refine Chg.alloc ?_ _ | with_reducible refine Chg.setCell ?_ _ _ (by simp) | with_reducible refine Chg.setCell ?_ _ _ (by simp; omega)))) (by simp)) wz.heap.size [.int .i64 6, .bool false, .int .u64 0, .string ⟨#[]⟩, .slice la3 n1 lc3, .slice ka3 n2 kc3] (by rfl) (by rfl) (by exact cells_new' _ _ _) (by intro u hu; simp only [List.mem_cons, List.not_mem_nil, or_false] at hu; rcases hu with rfl | rfl | rfl | rfl | rfl | rfl <;> rfl) (by omega) (by omega) ?_; intro g8 cap8 w8 hL8 hC8 hG8; have HL8 := Lib.hid hL8; have HC8 := Lib.hid hC8; have HG8 := Lib.hid hG8; clear hL8 hC8 hG8)))
          all_goals
            go_wp2_with fail
            go_ret2
            have hz8 := HGZ.out.size
            exact rdo_fin hwi HX.out HV.out HF.out HO.out HDN.out (HG0.out.trans HGY.out) HVY.out HF2.out HF2N.out HL8.out (((HGZ.out.alloc _).drew.none _).trans HC8.out) (by
              rcases HG8.out with h | h
              · exact .inl h
              · simp at h; exact .inr (by omega))
        · have hwi' : (szT (madeOf s l)).within = false := by simpa using hwi
          rw [hwi'] at HWI
          clear hwi
          go_wp2_with (first | (go_at_call 68; refine (HWI.out _ (by (repeat (first | exact Chg.refl _ _ | with_reducible refine Chg.drewN ?_ _ | with_reducible refine Chg.drew ?_ | with_reducible refine Chg.alloc ?_ _ | with_reducible refine Chg.setCell ?_ _ _ (by simp) | with_reducible refine Chg.setCell ?_ _ _ (by simp; omega))))).mono ?_; rintro e wz ⟨rfl, hgz⟩))
          go_ret2
          exact rdo_no hwi' (by decide) ((HG0.out.trans HGY.out).trans hgz)
    · have h56 : s.sort = 1 ∨ s.sort = 2 ∨ s.sort = 3 ∨ s.sort = 4 := by have := HUS.out; omega
      have h7 := HUS.out.2.2.2.2.2.2
      have h8 : s.count = 0 := Decidable.byContradiction fun g => h5 (h7.1 g)
      have h9 : s.keys = [] := Decidable.byContradiction fun g => h6 (h7.2 g)
      have hn0 : N = 0 := by rw [HN.out]; unfold nOf; rw [h8, h9]; rfl
      have hbits : s.sort ≠ 3 → normB s.bits = 0 := fun g => by
        have : s.bits = 0 := Decidable.byContradiction fun h => g (HUS.out.2.2.2.2.1 h)
        rw [this]; rfl
      have hmk : ∀ (wx : World) (F2 : Nat → Prop), ValAt wx F2 (madeOf s l) [.int .i64 s.sort, .bool s.flag, .int .u64 (normB s.bits), .string s.text, .slice none 0 0, .slice none 0 0] := fun wx F2 => by
        have hfl : s.sort ≠ 2 → s.flag = false := fun g => by cases h : s.flag with
          | false => rfl
          | true => exact absurd (HUS.out.2.2.2.1 h) g
        have htx : s.sort ≠ 4 → s.text = noB := fun g => Decidable.byContradiction fun h => g (HUS.out.2.2.2.2.2.1 h)
        unfold madeOf treeOf
        rcases h56 with g | g | g | g
        · rw [if_pos g, g, hfl (by omega), hbits (by omega), htx (by omega)]; simp only [ValAt]; exact ⟨none, 0, none, 0, rfl⟩
        · rw [if_neg (by omega), if_pos g, g, hbits (by omega), htx (by omega)]; simp only [ValAt]; exact ⟨none, 0, none, 0, rfl⟩
        · rw [if_neg (by omega), if_neg (by omega), if_pos g, g, hfl (by omega), htx (by omega)]; simp only [ValAt]; exact ⟨none, 0, none, 0, rfl⟩
        · rw [if_neg (by omega), if_neg (by omega), if_neg (by omega), if_pos g, g, hfl (by omega), hbits (by omega)]; simp only [ValAt]; exact ⟨none, 0, none, 0, rfl⟩
      have hfl3 : s.sort = 3 → s.flag = false ∧ s.text = noB := fun g => by
        refine ⟨?_, Decidable.byContradiction fun h => by have := HUS.out.2.2.2.2.2.1 h; omega⟩
        cases h : s.flag with
        | false => rfl
        | true => have := HUS.out.2.2.2.1 h; omega
      have d5 : (s.sort == 5) = false := by simp [h5]
      have d6 : (s.sort == 6) = false := by simp [h6]
      have hD0 : D = l.length := by omega
      subst hn0
      subst hD0
      have z20 : l.length - l.length = 0 := by omega
      by_cases h3 : s.sort = 3
      · have d3 : (s.sort == 3) = true := by simp [h3]
        rw [if_pos h3] at HC
        have HV3 : Hid (vC 3 false (normB s.bits) ⟨#[]⟩ (.slice none 0 0) (.slice none 0 0) = [.int .i64 s.sort, .bool s.flag, .int .u64 (normB s.bits), .string s.text, .slice none 0 0, .slice none 0 0]) := Lib.hid (by rw [h3, (hfl3 h3).1, (hfl3 h3).2]; rfl)
        have HMK := Lib.hid hmk
        clear h3 hfl3 hmk hbits h7 h8 h9 h56 h5 h6
        go_enter Tryz.func40, Tryz.ntmps40
        go_upto_region 1 with (fail)
        rw [← HW.out]
        go_upto_region 12 with ((first
              | (go_at_call 63; refine (r10_Used s.sort s.flag s.bits s.text s.count ka kn kc _).mono ?_; rintro e w1 ⟨rfl, hgA⟩; rw [HU.out]; obtain ⟨a1, a2, a3, a4, a5, a6, a7, a8⟩ := Blk.cells6 (HC.out.cells _ hgA))
              | (go_at_call 64; refine (HC.out.fin _).mono ?_; rintro e w2 ⟨rfl, hb⟩; have hgB := hgA.trans hb; obtain ⟨b1, b2, b3, b4, b5, b6, b7, b8⟩ := Blk.cells6 (HC.out.cells _ hgB))
              | (go_at_call 47; refine (HC.out.text _).mono ?_; rintro e w3 ⟨rfl, rfl⟩)
              | (go_at_call 65; refine (HC.out.keys _ (by first | exact hgB | exact hgA)).mono ?_; rintro e w4 ⟨rfl, hc⟩; have hgC : Chg w0 w4 [] := (by first | exact hgB.trans hc | exact hgA.trans hc); obtain ⟨c1, c2, c3, c4, c5, c6, c7, c8⟩ := Blk.cells6 (HC.out.cells _ hgC))
              | (go_at_call 66; refine (HC.out.twice rfl _ hgC).mono ?_; rintro e w5 ⟨rfl, hd⟩; have hgD := hgC.trans hd; obtain ⟨d1, d2, d3, d4, d5, d6, d7, d8⟩ := Blk.cells6 (HC.out.cells _ hgD))))
        go_upto_region 13 with (fail)
        obtain ⟨wq, hwq⟩ : ∃ x, x = w5.alloc (.cells #[.int .i64 s.sort, .bool s.flag, .int .u64 0, .string s.text, .slice none 0 0, .slice none 0 0] 42) := ⟨_, rfl⟩
        have HQ : Hid (Blk wq w5.heap.size (vC s.sort s.flag 0 s.text (.slice none 0 0) (.slice none 0 0)) 42) := by rw [hwq]; exact Lib.hid (Blk.new w5 _ _)
        have HGQ : Hid (Chg w0 wq []) := by rw [hwq]; exact Lib.hid (hgD.alloc _)
        have hqz : wq.heap.size = w5.heap.size + 1 := by rw [hwq]; simp
        have hq5 : w0.heap.size ≤ w5.heap.size := hgD.size
        rw [← hwq]
        obtain ⟨q, hq⟩ : ∃ q, q = w5.heap.size := ⟨_, rfl⟩
        rw [← hq] at HQ hqz hq5 ⊢
        have HQZ := Lib.hid hqz
        have HQ5 := Lib.hid hq5
        obtain ⟨q1, q2, q10, q11, q12, q13, q14, q15⟩ := Blk.cells6 HQ.out
        obtain ⟨s1, s2, s10, s11, s12, s13, s14, s15⟩ := Blk.cells6 (HC.out.cells _ HGQ.out)
        clear hwq hq hqz hq5
        go_upto_region 15 with (first
          | (go_at_call 38; refine (r10_Num s.bits _).mono ?_; rintro e w6 ⟨rfl, hg6⟩; rw [numB_norm HB.out.bits]; have HG6 := Lib.hid hg6; have HQ6 := Lib.hid (HQ.out.kept hg6 (by simp)); clear hg6)
          | (refine wpList_store_blk rfl _ _ _ rfl q (vC 3 false (normB s.bits) ⟨#[]⟩ (.slice none 0 0) (.slice none 0 0)) (by rfl) (by rfl) _ _ HQ6.out info_val rfl (by intro u hu; simp only [vC, List.mem_cons, List.not_mem_nil, or_false] at hu; rcases hu with rfl | rfl | rfl | rfl | rfl | rfl <;> rfl) ?_; intro wv hz7 hB7 hC7; have HB7 := Lib.hid hB7; have HC7 := Lib.hid hC7; clear hB7 hC7 hz7))
        have HGV : Hid (Chg w0 wv []) := Lib.hid ((HGQ.out.trans HG6.out).step HC7.out (fun i hi hlt => by simp at hi; have := HQ5.out; omega))
        have HQV : Hid (Blk wv q [.int .i64 s.sort, .bool s.flag, .int .u64 (normB s.bits), .string s.text, .slice none 0 0, .slice none 0 0] 42) := Lib.hid (HB7.out.eq HV3.out)
        obtain ⟨s1', s2', s10', s11', s12', s13', s14', s15'⟩ := Blk.cells6 (HC.out.cells _ HGV.out)
        obtain ⟨p1', p2', p10', p11', p12', p13', p14', p15'⟩ := Blk.cells6 HQV.out
        rcases Decidable.em (rc = l.length) with hrc | hrc
        · subst hrc
          go_upto_region 20 with (first | (at_builtin; refine wpList_append_void rfl _ _ _ rfl 42 ti Tryz.underlying39 hti _ 0 0 (Nat.le_refl _) (by rfl) _ _ (by rfl) ?_))
          obtain ⟨wy, hwy⟩ : ∃ x, x = wv.alloc (.cells #[] 42) := ⟨_, rfl⟩
          rw [← hwy]
          have HGY : Hid (Chg w0 wy []) := by rw [hwy]; exact Lib.hid (HGV.out.alloc _)
          have HY : Hid (Blk wy q [.int .i64 s.sort, .bool s.flag, .int .u64 (normB s.bits), .string s.text, .slice none 0 0, .slice none 0 0] 42) := by rw [hwy]; exact Lib.hid (HQV.out.alloc _)
          obtain ⟨F2, hF2⟩ : ∃ F2 : Nat → Prop, F2 = fun _ => False := ⟨_, rfl⟩
          have HF2 : Hid (∀ b, F2 b → b < wy.heap.size) := Lib.hid (by rw [hF2]; exact fun _ h => h.elim)
          have HF2N : Hid (∀ b, F2 b → F b ∨ w.heap.size ≤ b) := Lib.hid (by rw [hF2]; exact fun _ h => h.elim)
          have HVY : Hid (ValAt wy F2 (madeOf s l) [.int .i64 s.sort, .bool s.flag, .int .u64 (normB s.bits), .string s.text, .slice none 0 0, .slice none 0 0]) := Lib.hid (HMK.out wy F2)
          clear hwy hF2
          have hms := made_sz (s := s) HFT.out hl HB.out HOK.out HNN.out
          have HMS := Lib.hid hms
          have hwy0 : w0.heap.size ≤ wy.heap.size := HGY.out.size
          have hxp := (HX.out.popK l.length z12).kept (HG0.out.trans HGY.out) (by simp)
          have HXP := Lib.hid hxp
          have HWI : Hid (∀ wx, Chg wy wx [] → Calls Tryz.prog 68 #[.agg ([.int .i64 s.sort, .bool s.flag, .int .u64 (normB s.bits), .string s.text, .slice none 0 0, .slice none 0 0] : List Value).toArray] wx fun e w' => e = .returned (.bool (szT (madeOf s l)).within) ∧ Chg wx w' []) := Lib.hid fun wx h =>
            r10_Within (madeOf s l) F2 _ wx HMS.out.1 HMS.out.2.1 HMS.out.2.2 (ValAt.kept (h.keepsF HF2.out (by simp)) (fun _ h => h) _ _ HVY.out) (fun b hb => Nat.lt_of_lt_of_le (HF2.out b hb) h.size)
          obtain ⟨y1, y2, y10, y11, y12, y13, y14, y15⟩ := Blk.cells6 HY.out
          clear hms hxp
          by_cases hwi : (szT (madeOf s l)).within = true
          · rw [hwi] at HWI
            go_upto_region 22 with (first | (go_at_call 68; refine (HWI.out _ (by (repeat (first | exact Chg.refl _ _ | with_reducible refine Chg.drewN ?_ _ | with_reducible refine Chg.drew ?_ | with_reducible refine Chg.alloc ?_ _ | with_reducible refine Chg.setCell ?_ _ _ (by simp) | with_reducible refine Chg.setCell ?_ _ _ (by simp; omega))))).mono ?_; rintro e wz ⟨rfl, hgz⟩; have HGZ := Lib.hid hgz; have HYZ := Lib.hid (HY.out.kept hgz (by simp)); obtain ⟨z1', z2', z10', z11', z12', z13', z14', z15'⟩ := Blk.cells6 HYZ.out; clear hgz))
            go_region_law (first
              | (go_loud (refine step_appendK rfl _ _ _ rfl 42 zVal 6 88 (by decide) Tryz.underlying39 info_valz rfl (.slice ra l.length l.length) l.length (xs.take (l.length * 6)) (by rfl) (by exact (HXP.out.kept HGZ.out (by simp)).kept (bs := []) (by (repeat (first | exact Chg.refl _ _ | with_reducible refine Chg.drewN ?_ _ | with_reducible refine Chg.drew ?_ | with_reducible refine Chg.alloc ?_ _ | with_reducible refine Chg.setCell ?_ _ _ (by simp) | with_reducible refine Chg.setCell ?_ _ _ (by simp; omega)))) (by simp)) wz.heap.size [.int .i64 s.sort, .bool s.flag, .int .u64 (normB s.bits), .string s.text, .slice none 0 0, .slice none 0 0] (by rfl) (by rfl) (by exact cells_new' _ _ _) (by intro u hu; simp only [List.mem_cons, List.not_mem_nil, or_false] at hu; rcases hu with rfl | rfl | rfl | rfl | rfl | rfl <;> rfl) (by omega) (by omega) ?_; intro g8 cap8 w8 hL8 hC8 hG8; have HL8 := Lib.hid hL8; have HC8 := Lib.hid hC8; have HG8 := Lib.hid hG8; clear hL8 hC8 hG8)))
            all_goals
              go_wp2_with fail
              go_ret2
              have hz8 := HGZ.out.size
              exact rdo_fin hwi HX.out HV.out HF.out HO.out HDN.out (HG0.out.trans HGY.out) HVY.out HF2.out HF2N.out HL8.out (((HGZ.out.alloc _).drew.none _).trans HC8.out) (by
                rcases HG8.out with h | h
                · exact .inl h
                · simp at h; exact .inr (by omega))
          · have hwi' : (szT (madeOf s l)).within = false := by simpa using hwi
            rw [hwi'] at HWI
            clear hwi
            go_wp2_with (first | (go_at_call 68; refine (HWI.out _ (by (repeat (first | exact Chg.refl _ _ | with_reducible refine Chg.drewN ?_ _ | with_reducible refine Chg.drew ?_ | with_reducible refine Chg.alloc ?_ _ | with_reducible refine Chg.setCell ?_ _ _ (by simp) | with_reducible refine Chg.setCell ?_ _ _ (by simp; omega))))).mono ?_; rintro e wz ⟨rfl, hgz⟩))
            go_ret2
            exact rdo_no hwi' (by decide) ((HG0.out.trans HGY.out).trans hgz)
        · skip
          go_upto_region 20 with (first | (at_builtin; refine wpList_append_void rfl _ _ _ rfl 42 ti Tryz.underlying39 hti _ 0 0 (Nat.le_refl _) (by rfl) _ _ (by rfl) ?_))
          obtain ⟨wy, hwy⟩ : ∃ x, x = wv.alloc (.cells #[] 42) := ⟨_, rfl⟩
          rw [← hwy]
          have HGY : Hid (Chg w0 wy []) := by rw [hwy]; exact Lib.hid (HGV.out.alloc _)
          have HY : Hid (Blk wy q [.int .i64 s.sort, .bool s.flag, .int .u64 (normB s.bits), .string s.text, .slice none 0 0, .slice none 0 0] 42) := by rw [hwy]; exact Lib.hid (HQV.out.alloc _)
          obtain ⟨F2, hF2⟩ : ∃ F2 : Nat → Prop, F2 = fun _ => False := ⟨_, rfl⟩
          have HF2 : Hid (∀ b, F2 b → b < wy.heap.size) := Lib.hid (by rw [hF2]; exact fun _ h => h.elim)
          have HF2N : Hid (∀ b, F2 b → F b ∨ w.heap.size ≤ b) := Lib.hid (by rw [hF2]; exact fun _ h => h.elim)
          have HVY : Hid (ValAt wy F2 (madeOf s l) [.int .i64 s.sort, .bool s.flag, .int .u64 (normB s.bits), .string s.text, .slice none 0 0, .slice none 0 0]) := Lib.hid (HMK.out wy F2)
          clear hwy hF2
          have hms := made_sz (s := s) HFT.out hl HB.out HOK.out HNN.out
          have HMS := Lib.hid hms
          have hwy0 : w0.heap.size ≤ wy.heap.size := HGY.out.size
          have hxp := (HX.out.popK l.length z12).kept (HG0.out.trans HGY.out) (by simp)
          have HXP := Lib.hid hxp
          have HWI : Hid (∀ wx, Chg wy wx [] → Calls Tryz.prog 68 #[.agg ([.int .i64 s.sort, .bool s.flag, .int .u64 (normB s.bits), .string s.text, .slice none 0 0, .slice none 0 0] : List Value).toArray] wx fun e w' => e = .returned (.bool (szT (madeOf s l)).within) ∧ Chg wx w' []) := Lib.hid fun wx h =>
            r10_Within (madeOf s l) F2 _ wx HMS.out.1 HMS.out.2.1 HMS.out.2.2 (ValAt.kept (h.keepsF HF2.out (by simp)) (fun _ h => h) _ _ HVY.out) (fun b hb => Nat.lt_of_lt_of_le (HF2.out b hb) h.size)
          obtain ⟨y1, y2, y10, y11, y12, y13, y14, y15⟩ := Blk.cells6 HY.out
          clear hms hxp
          by_cases hwi : (szT (madeOf s l)).within = true
          · rw [hwi] at HWI
            go_upto_region 22 with (first | (go_at_call 68; refine (HWI.out _ (by (repeat (first | exact Chg.refl _ _ | with_reducible refine Chg.drewN ?_ _ | with_reducible refine Chg.drew ?_ | with_reducible refine Chg.alloc ?_ _ | with_reducible refine Chg.setCell ?_ _ _ (by simp) | with_reducible refine Chg.setCell ?_ _ _ (by simp; omega))))).mono ?_; rintro e wz ⟨rfl, hgz⟩; have HGZ := Lib.hid hgz; have HYZ := Lib.hid (HY.out.kept hgz (by simp)); obtain ⟨z1', z2', z10', z11', z12', z13', z14', z15'⟩ := Blk.cells6 HYZ.out; clear hgz))
            go_region_law (first
              | (go_loud (refine step_appendK rfl _ _ _ rfl 42 zVal 6 88 (by decide) Tryz.underlying39 info_valz rfl (.slice ra l.length rc) l.length (xs.take (l.length * 6)) (by rfl) (by exact (HXP.out.kept HGZ.out (by simp)).kept (bs := []) (by (repeat (first | exact Chg.refl _ _ | with_reducible refine Chg.drewN ?_ _ | with_reducible refine Chg.drew ?_ | with_reducible refine Chg.alloc ?_ _ | with_reducible refine Chg.setCell ?_ _ _ (by simp) | with_reducible refine Chg.setCell ?_ _ _ (by simp; omega)))) (by simp)) wz.heap.size [.int .i64 s.sort, .bool s.flag, .int .u64 (normB s.bits), .string s.text, .slice none 0 0, .slice none 0 0] (by rfl) (by rfl) (by exact cells_new' _ _ _) (by intro u hu; simp only [List.mem_cons, List.not_mem_nil, or_false] at hu; rcases hu with rfl | rfl | rfl | rfl | rfl | rfl <;> rfl) (by omega) (by omega) ?_; intro g8 cap8 w8 hL8 hC8 hG8; have HL8 := Lib.hid hL8; have HC8 := Lib.hid hC8; have HG8 := Lib.hid hG8; clear hL8 hC8 hG8)))
            all_goals
              go_wp2_with fail
              go_ret2
              have hz8 := HGZ.out.size
              exact rdo_fin hwi HX.out HV.out HF.out HO.out HDN.out (HG0.out.trans HGY.out) HVY.out HF2.out HF2N.out HL8.out (((HGZ.out.alloc _).drew.none _).trans HC8.out) (by
                rcases HG8.out with h | h
                · exact .inl h
                · simp at h; exact .inr (by omega))
          · have hwi' : (szT (madeOf s l)).within = false := by simpa using hwi
            rw [hwi'] at HWI
            clear hwi
            go_wp2_with (first | (go_at_call 68; refine (HWI.out _ (by (repeat (first | exact Chg.refl _ _ | with_reducible refine Chg.drewN ?_ _ | with_reducible refine Chg.drew ?_ | with_reducible refine Chg.alloc ?_ _ | with_reducible refine Chg.setCell ?_ _ _ (by simp) | with_reducible refine Chg.setCell ?_ _ _ (by simp; omega))))).mono ?_; rintro e wz ⟨rfl, hgz⟩))
            go_ret2
            exact rdo_no hwi' (by decide) ((HG0.out.trans HGY.out).trans hgz)
      · have d3 : (s.sort == 3) = false := by simp [h3]
        rw [if_neg h3] at HC
        have HMK : Hid (∀ (wx : World) (F2 : Nat → Prop), ValAt wx F2 (madeOf s l) [.int .i64 s.sort, .bool s.flag, .int .u64 0, .string s.text, .slice none 0 0, .slice none 0 0]) := Lib.hid fun wx F2 => by have := hmk wx F2; rw [hbits h3] at this; exact this
        clear h3 hfl3 hmk hbits h7 h8 h9 h56 h5 h6
        go_enter Tryz.func40, Tryz.ntmps40
        go_upto_region 1 with (fail)
        rw [← HW.out]
        go_upto_region 12 with ((first
              | (go_at_call 63; refine (r10_Used s.sort s.flag s.bits s.text s.count ka kn kc _).mono ?_; rintro e w1 ⟨rfl, hgA⟩; rw [HU.out]; obtain ⟨a1, a2, a3, a4, a5, a6, a7, a8⟩ := Blk.cells6 (HC.out.cells _ hgA))
              | (go_at_call 64; refine (HC.out.fin _).mono ?_; rintro e w2 ⟨rfl, hb⟩; have hgB := hgA.trans hb; obtain ⟨b1, b2, b3, b4, b5, b6, b7, b8⟩ := Blk.cells6 (HC.out.cells _ hgB))
              | (go_at_call 47; refine (HC.out.text _).mono ?_; rintro e w3 ⟨rfl, rfl⟩)
              | (go_at_call 65; refine (HC.out.keys _ (by first | exact hgB | exact hgA)).mono ?_; rintro e w4 ⟨rfl, hc⟩; have hgC : Chg w0 w4 [] := (by first | exact hgB.trans hc | exact hgA.trans hc); obtain ⟨c1, c2, c3, c4, c5, c6, c7, c8⟩ := Blk.cells6 (HC.out.cells _ hgC))
              | (go_at_call 66; refine (HC.out.twice rfl _ hgC).mono ?_; rintro e w5 ⟨rfl, hd⟩; have hgD := hgC.trans hd; obtain ⟨d1, d2, d3, d4, d5, d6, d7, d8⟩ := Blk.cells6 (HC.out.cells _ hgD))))
        go_upto_region 13 with (fail)
        obtain ⟨wq, hwq⟩ : ∃ x, x = w5.alloc (.cells #[.int .i64 s.sort, .bool s.flag, .int .u64 0, .string s.text, .slice none 0 0, .slice none 0 0] 42) := ⟨_, rfl⟩
        have HQ : Hid (Blk wq w5.heap.size (vC s.sort s.flag 0 s.text (.slice none 0 0) (.slice none 0 0)) 42) := by rw [hwq]; exact Lib.hid (Blk.new w5 _ _)
        have HGQ : Hid (Chg w0 wq []) := by rw [hwq]; exact Lib.hid (hgD.alloc _)
        have hqz : wq.heap.size = w5.heap.size + 1 := by rw [hwq]; simp
        have hq5 : w0.heap.size ≤ w5.heap.size := hgD.size
        rw [← hwq]
        obtain ⟨q, hq⟩ : ∃ q, q = w5.heap.size := ⟨_, rfl⟩
        rw [← hq] at HQ hqz hq5 ⊢
        have HQZ := Lib.hid hqz
        have HQ5 := Lib.hid hq5
        obtain ⟨q1, q2, q10, q11, q12, q13, q14, q15⟩ := Blk.cells6 HQ.out
        obtain ⟨s1, s2, s10, s11, s12, s13, s14, s15⟩ := Blk.cells6 (HC.out.cells _ HGQ.out)
        clear hwq hq hqz hq5
        obtain ⟨wv, hwv⟩ : ∃ x, x = wq := ⟨_, rfl⟩
        rw [← hwv] at HGQ HQ q1 q2 q10 q11 q12 q13 q14 q15 s1 s2 s10 s11 s12 s13 s14 s15 ⊢
        have HGV := HGQ
        have HQV : Hid (Blk wv q [.int .i64 s.sort, .bool s.flag, .int .u64 0, .string s.text, .slice none 0 0, .slice none 0 0] 42) := HQ
        clear hwv
        rcases Decidable.em (rc = l.length) with hrc | hrc
        · subst hrc
          go_upto_region 20 with (first | (at_builtin; refine wpList_append_void rfl _ _ _ rfl 42 ti Tryz.underlying39 hti _ 0 0 (Nat.le_refl _) (by rfl) _ _ (by rfl) ?_))
          obtain ⟨wy, hwy⟩ : ∃ x, x = wv.alloc (.cells #[] 42) := ⟨_, rfl⟩
          rw [← hwy]
          have HGY : Hid (Chg w0 wy []) := by rw [hwy]; exact Lib.hid (HGV.out.alloc _)
          have HY : Hid (Blk wy q [.int .i64 s.sort, .bool s.flag, .int .u64 0, .string s.text, .slice none 0 0, .slice none 0 0] 42) := by rw [hwy]; exact Lib.hid (HQV.out.alloc _)
          obtain ⟨F2, hF2⟩ : ∃ F2 : Nat → Prop, F2 = fun _ => False := ⟨_, rfl⟩
          have HF2 : Hid (∀ b, F2 b → b < wy.heap.size) := Lib.hid (by rw [hF2]; exact fun _ h => h.elim)
          have HF2N : Hid (∀ b, F2 b → F b ∨ w.heap.size ≤ b) := Lib.hid (by rw [hF2]; exact fun _ h => h.elim)
          have HVY : Hid (ValAt wy F2 (madeOf s l) [.int .i64 s.sort, .bool s.flag, .int .u64 0, .string s.text, .slice none 0 0, .slice none 0 0]) := Lib.hid (HMK.out wy F2)
          clear hwy hF2
          have hms := made_sz (s := s) HFT.out hl HB.out HOK.out HNN.out
          have HMS := Lib.hid hms
          have hwy0 : w0.heap.size ≤ wy.heap.size := HGY.out.size
          have hxp := (HX.out.popK l.length z12).kept (HG0.out.trans HGY.out) (by simp)
          have HXP := Lib.hid hxp
          have HWI : Hid (∀ wx, Chg wy wx [] → Calls Tryz.prog 68 #[.agg ([.int .i64 s.sort, .bool s.flag, .int .u64 0, .string s.text, .slice none 0 0, .slice none 0 0] : List Value).toArray] wx fun e w' => e = .returned (.bool (szT (madeOf s l)).within) ∧ Chg wx w' []) := Lib.hid fun wx h =>
            r10_Within (madeOf s l) F2 _ wx HMS.out.1 HMS.out.2.1 HMS.out.2.2 (ValAt.kept (h.keepsF HF2.out (by simp)) (fun _ h => h) _ _ HVY.out) (fun b hb => Nat.lt_of_lt_of_le (HF2.out b hb) h.size)
          obtain ⟨y1, y2, y10, y11, y12, y13, y14, y15⟩ := Blk.cells6 HY.out
          clear hms hxp
          by_cases hwi : (szT (madeOf s l)).within = true
          · rw [hwi] at HWI
            go_upto_region 22 with (first | (go_at_call 68; refine (HWI.out _ (by (repeat (first | exact Chg.refl _ _ | with_reducible refine Chg.drewN ?_ _ | with_reducible refine Chg.drew ?_ | with_reducible refine Chg.alloc ?_ _ | with_reducible refine Chg.setCell ?_ _ _ (by simp) | with_reducible refine Chg.setCell ?_ _ _ (by simp; omega))))).mono ?_; rintro e wz ⟨rfl, hgz⟩; have HGZ := Lib.hid hgz; have HYZ := Lib.hid (HY.out.kept hgz (by simp)); obtain ⟨z1', z2', z10', z11', z12', z13', z14', z15'⟩ := Blk.cells6 HYZ.out; clear hgz))
            go_region_law (first
              | (go_loud (refine step_appendK rfl _ _ _ rfl 42 zVal 6 88 (by decide) Tryz.underlying39 info_valz rfl (.slice ra l.length l.length) l.length (xs.take (l.length * 6)) (by rfl) (by exact (HXP.out.kept HGZ.out (by simp)).kept (bs := []) (by (repeat (first | exact Chg.refl _ _ | with_reducible refine Chg.drewN ?_ _ | with_reducible refine Chg.drew ?_ | with_reducible refine Chg.alloc ?_ _ | with_reducible refine Chg.setCell ?_ _ _ (by simp) | with_reducible refine Chg.setCell ?_ _ _ (by simp; omega)))) (by simp)) wz.heap.size [.int .i64 s.sort, .bool s.flag, .int .u64 0, .string s.text, .slice none 0 0, .slice none 0 0] (by rfl) (by rfl) (by exact cells_new' _ _ _) (by intro u hu; simp only [List.mem_cons, List.not_mem_nil, or_false] at hu; rcases hu with rfl | rfl | rfl | rfl | rfl | rfl <;> rfl) (by omega) (by omega) ?_; intro g8 cap8 w8 hL8 hC8 hG8; have HL8 := Lib.hid hL8; have HC8 := Lib.hid hC8; have HG8 := Lib.hid hG8; clear hL8 hC8 hG8)))
            all_goals
              go_wp2_with fail
              go_ret2
              have hz8 := HGZ.out.size
              exact rdo_fin hwi HX.out HV.out HF.out HO.out HDN.out (HG0.out.trans HGY.out) HVY.out HF2.out HF2N.out HL8.out (((HGZ.out.alloc _).drew.none _).trans HC8.out) (by
                rcases HG8.out with h | h
                · exact .inl h
                · simp at h; exact .inr (by omega))
          · have hwi' : (szT (madeOf s l)).within = false := by simpa using hwi
            rw [hwi'] at HWI
            clear hwi
            go_wp2_with (first | (go_at_call 68; refine (HWI.out _ (by (repeat (first | exact Chg.refl _ _ | with_reducible refine Chg.drewN ?_ _ | with_reducible refine Chg.drew ?_ | with_reducible refine Chg.alloc ?_ _ | with_reducible refine Chg.setCell ?_ _ _ (by simp) | with_reducible refine Chg.setCell ?_ _ _ (by simp; omega))))).mono ?_; rintro e wz ⟨rfl, hgz⟩))
            go_ret2
            exact rdo_no hwi' (by decide) ((HG0.out.trans HGY.out).trans hgz)
        · skip
          go_upto_region 20 with (first | (at_builtin; refine wpList_append_void rfl _ _ _ rfl 42 ti Tryz.underlying39 hti _ 0 0 (Nat.le_refl _) (by rfl) _ _ (by rfl) ?_))
          obtain ⟨wy, hwy⟩ : ∃ x, x = wv.alloc (.cells #[] 42) := ⟨_, rfl⟩
          rw [← hwy]
          have HGY : Hid (Chg w0 wy []) := by rw [hwy]; exact Lib.hid (HGV.out.alloc _)
          have HY : Hid (Blk wy q [.int .i64 s.sort, .bool s.flag, .int .u64 0, .string s.text, .slice none 0 0, .slice none 0 0] 42) := by rw [hwy]; exact Lib.hid (HQV.out.alloc _)
          obtain ⟨F2, hF2⟩ : ∃ F2 : Nat → Prop, F2 = fun _ => False := ⟨_, rfl⟩
          have HF2 : Hid (∀ b, F2 b → b < wy.heap.size) := Lib.hid (by rw [hF2]; exact fun _ h => h.elim)
          have HF2N : Hid (∀ b, F2 b → F b ∨ w.heap.size ≤ b) := Lib.hid (by rw [hF2]; exact fun _ h => h.elim)
          have HVY : Hid (ValAt wy F2 (madeOf s l) [.int .i64 s.sort, .bool s.flag, .int .u64 0, .string s.text, .slice none 0 0, .slice none 0 0]) := Lib.hid (HMK.out wy F2)
          clear hwy hF2
          have hms := made_sz (s := s) HFT.out hl HB.out HOK.out HNN.out
          have HMS := Lib.hid hms
          have hwy0 : w0.heap.size ≤ wy.heap.size := HGY.out.size
          have hxp := (HX.out.popK l.length z12).kept (HG0.out.trans HGY.out) (by simp)
          have HXP := Lib.hid hxp
          have HWI : Hid (∀ wx, Chg wy wx [] → Calls Tryz.prog 68 #[.agg ([.int .i64 s.sort, .bool s.flag, .int .u64 0, .string s.text, .slice none 0 0, .slice none 0 0] : List Value).toArray] wx fun e w' => e = .returned (.bool (szT (madeOf s l)).within) ∧ Chg wx w' []) := Lib.hid fun wx h =>
            r10_Within (madeOf s l) F2 _ wx HMS.out.1 HMS.out.2.1 HMS.out.2.2 (ValAt.kept (h.keepsF HF2.out (by simp)) (fun _ h => h) _ _ HVY.out) (fun b hb => Nat.lt_of_lt_of_le (HF2.out b hb) h.size)
          obtain ⟨y1, y2, y10, y11, y12, y13, y14, y15⟩ := Blk.cells6 HY.out
          clear hms hxp
          by_cases hwi : (szT (madeOf s l)).within = true
          · rw [hwi] at HWI
            go_upto_region 22 with (first | (go_at_call 68; refine (HWI.out _ (by (repeat (first | exact Chg.refl _ _ | with_reducible refine Chg.drewN ?_ _ | with_reducible refine Chg.drew ?_ | with_reducible refine Chg.alloc ?_ _ | with_reducible refine Chg.setCell ?_ _ _ (by simp) | with_reducible refine Chg.setCell ?_ _ _ (by simp; omega))))).mono ?_; rintro e wz ⟨rfl, hgz⟩; have HGZ := Lib.hid hgz; have HYZ := Lib.hid (HY.out.kept hgz (by simp)); obtain ⟨z1', z2', z10', z11', z12', z13', z14', z15'⟩ := Blk.cells6 HYZ.out; clear hgz))
            go_region_law (first
              | (go_loud (refine step_appendK rfl _ _ _ rfl 42 zVal 6 88 (by decide) Tryz.underlying39 info_valz rfl (.slice ra l.length rc) l.length (xs.take (l.length * 6)) (by rfl) (by exact (HXP.out.kept HGZ.out (by simp)).kept (bs := []) (by (repeat (first | exact Chg.refl _ _ | with_reducible refine Chg.drewN ?_ _ | with_reducible refine Chg.drew ?_ | with_reducible refine Chg.alloc ?_ _ | with_reducible refine Chg.setCell ?_ _ _ (by simp) | with_reducible refine Chg.setCell ?_ _ _ (by simp; omega)))) (by simp)) wz.heap.size [.int .i64 s.sort, .bool s.flag, .int .u64 0, .string s.text, .slice none 0 0, .slice none 0 0] (by rfl) (by rfl) (by exact cells_new' _ _ _) (by intro u hu; simp only [List.mem_cons, List.not_mem_nil, or_false] at hu; rcases hu with rfl | rfl | rfl | rfl | rfl | rfl <;> rfl) (by omega) (by omega) ?_; intro g8 cap8 w8 hL8 hC8 hG8; have HL8 := Lib.hid hL8; have HC8 := Lib.hid hC8; have HG8 := Lib.hid hG8; clear hL8 hC8 hG8)))
            all_goals
              go_wp2_with fail
              go_ret2
              have hz8 := HGZ.out.size
              exact rdo_fin hwi HX.out HV.out HF.out HO.out HDN.out (HG0.out.trans HGY.out) HVY.out HF2.out HF2N.out HL8.out (((HGZ.out.alloc _).drew.none _).trans HC8.out) (by
                rcases HG8.out with h | h
                · exact .inl h
                · simp at h; exact .inr (by omega))
          · have hwi' : (szT (madeOf s l)).within = false := by simpa using hwi
            rw [hwi'] at HWI
            clear hwi
            go_wp2_with (first | (go_at_call 68; refine (HWI.out _ (by (repeat (first | exact Chg.refl _ _ | with_reducible refine Chg.drewN ?_ _ | with_reducible refine Chg.drew ?_ | with_reducible refine Chg.alloc ?_ _ | with_reducible refine Chg.setCell ?_ _ _ (by simp) | with_reducible refine Chg.setCell ?_ _ _ (by simp; omega))))).mono ?_; rintro e wz ⟨rfl, hgz⟩))
            go_ret2
            exact rdo_no hwi' (by decide) ((HG0.out.trans HGY.out).trans hgz)

end Go.Proofs.YtfdhgakalojahaaGreatDoor

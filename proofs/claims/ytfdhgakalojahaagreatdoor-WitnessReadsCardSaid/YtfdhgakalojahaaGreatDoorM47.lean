/- WALKS: the reference's layer 30: an object of a head's keys. -/
import Derived.Test.YtfdhgakalojahaaGreatDoorM46
import Derived.Test.YtfdhgakalojahaaGreatDoorM22
set_option linter.unusedSimpArgs false
set_option linter.unusedVariables false
set_option linter.unnecessarySimpa false
set_option linter.unusedSectionVars false
namespace Go.Proofs.YtfdhgakalojahaaGreatDoor
open Go Go.RowKit Tree

attribute [local irreducible] Ieee.Format.order in
set_option maxRecDepth 100000 in
set_option maxHeartbeats 2000000 in
theorem r30_count_shape (t : Tr) (hn : ∀ b, t = .num b → NumOK b) (la ka : Option Addr) (lc kc : Nat) (w : World) :
    Calls Tryz.prog 42 #[.agg (vC (headStep t).sort (headStep t).flag (headStep t).bits (headStep t).text (.slice la (itemsT t).length lc) (.slice ka (headStep t).keys.length kc)).toArray] w fun e w' => e = .returned (.int .i64 (cntI (cntN t))) ∧ Chg w w' [] := by
  by_cases hnum : ∃ b, t = .num b
  · obtain ⟨b, rfl⟩ := hnum
    exact r30_count (.num b) (fun _ => True) _ w (by simp only [ValAt]; exact ⟨la, lc, ka, kc, rfl⟩) hn
  · have hc : cntN t = none := by
      cases t with
      | num b => exact absurd ⟨b, rfl⟩ hnum
      | _ => rfl
    rw [hc]
    have h3 : ((headStep t).sort : Int) ≠ 3 := by
      cases t with
      | num b => exact absurd ⟨b, rfl⟩ hnum
      | _ => simp [headStep]
    obtain ⟨so, hso⟩ : ∃ x, x = ((headStep t).sort : Int) := ⟨_, rfl⟩
    rw [← hso] at h3 ⊢
    have d3 : (so == 3) = false := by simp [h3]
    obtain ⟨w0, hw0⟩ : ∃ x, x = w.alloc (.cells (vC so (headStep t).flag (headStep t).bits (headStep t).text (.slice la (itemsT t).length lc) (.slice ka (headStep t).keys.length kc)).toArray 42) := ⟨_, rfl⟩
    have HX : Hid (Blk w0 w.heap.size (vC so (headStep t).flag (headStep t).bits (headStep t).text (.slice la (itemsT t).length lc) (.slice ka (headStep t).keys.length kc)) 42) := by rw [hw0]; exact Lib.hid (Blk.new _ _ _)
    have HG0 : Hid (Chg w w0 []) := by rw [hw0]; exact Lib.hid ((Chg.refl w []).alloc _)
    rw [vC_arr] at hw0 ⊢
    have HW := Lib.hid hw0
    obtain ⟨xl, xf, x0, x1, x2, x3, x4, x5⟩ := HX.out.cells6
    clear hw0 hn hnum hc hso h3
    go_enter Tryz.func42, Tryz.ntmps42
    go_upto_region 1 with (fail)
    rw [← HW.out]
    go_wp2_with fail
    go_ret
    exact ⟨rfl, HG0.out⟩

theorem head_text (t : Tr) : (headStep t).text = textT t := by cases t <;> rfl

theorem hdL_zero (o : ByteArray) (n t : Int) (rb : List UInt8) {i : Nat} (hr : rb.length = 32) (h : i < 32) : (hdL o n (rb.take i ++ List.replicate (32 - i) 0) t)[2 + i]? = some (.int .u8 0) := by
  refine hdL_2 _ _ _ _ _ _ ?_
  rw [List.getElem?_map, List.getElem?_append_right (by rw [List.length_take]; omega), List.length_take, Nat.min_eq_left (by omega), Nat.sub_self, List.getElem?_replicate, if_pos (by omega)]
  rfl

theorem hdL_step (o : ByteArray) (n : Int) (rb : List UInt8) (t : Int) {i : Nat} (hr : rb.length = 32) (h : i < 32) :
    (hdL o n (rb.take i ++ List.replicate (32 - i) 0) t).set (2 + i) (.int .u8 ((rb[i]'(by rw [hr]; exact h)).toNat)) = hdL o n (rb.take (i + 1) ++ List.replicate (32 - (i + 1)) 0) t := by
  have hz : List.replicate (32 - i) (0 : UInt8) = 0 :: List.replicate (32 - (i + 1)) 0 := by rw [show 32 - i = (32 - (i + 1)) + 1 from by omega, List.replicate_succ]
  have ht : rb.take (i + 1) = rb.take i ++ [rb[i]'(by rw [hr]; exact h)] := by rw [List.take_add_one, List.getElem?_eq_getElem (by omega)]; rfl
  have hl : (rb.take i).length = i := by rw [List.length_take]; omega
  rw [hz, ht]
  simp only [hdL, List.map_append, List.map_cons, List.cons_append, List.nil_append, List.append_assoc, List.map_nil]
  rw [show 2 + i = i + 2 from Nat.add_comm _ _, List.set_cons_succ, List.set_cons_succ, List.set_append, if_neg (by rw [List.length_map, hl]; omega)]
  rw [List.length_map, hl, Nat.sub_self, List.set_cons_zero]
  rfl

/-- what the reference tells of an object of a head's keys -/
def R30Four (A B C D : Tr) (w : World) (e : Ending) (w' : World) : Prop :=
  match headBad A B C D with
  | some p => R30No p w e w'
  | none => e = .returned (.tuple #[.agg (hdL (textT A) (cntI (cntN C)) (rbOf (textT B)) (cntI (cntN D))).toArray, .string ⟨#[]⟩, .bool true]) ∧ Chg w w' []

/-- an item's cells -/
theorem item_cells {w : World} {F : Nat → Prop} {l : List Tr} {xs : List Value} (hv : ValsAt w F l xs) {b o : Nat} (hc : ∀ i v, xs[i]? = some v → w.cell? ⟨b, o + i, none⟩ = some v) (i : Nat) (t : Tr) (ht : l[i]? = some t) :
    ∃ la lc ka kc, w.rangeAt b (o + 6 * i) (vC (headStep t).sort (headStep t).flag (headStep t).bits (headStep t).text (.slice la (itemsT t).length lc) (.slice ka (headStep t).keys.length kc)) := by
  obtain ⟨c, h1, h2⟩ := hv.get i t ht
  obtain ⟨la, lc, ka, kc, _, rfl, _⟩ := h1.uni
  refine ⟨la, lc, ka, kc, fun j v hj => ?_⟩
  rw [Nat.add_assoc]
  exact hc _ _ (h2 j v hj)

set_option maxRecDepth 200000 in
set_option maxHeartbeats 16000000 in
theorem r30_Read_four (A B C D : Tr) (F : Nat → Prop) (cs : List Value) (w : World) (hv : ValAt w F (.obj keys4 [A, B, C, D]) cs) (hg : GoodT A ∧ GoodT B ∧ GoodT C ∧ GoodT D) :
    Calls Tryz.prog 14 #[.agg cs.toArray] w (R30Four A B C D w) := by
  simp only [ValAt] at hv
  obtain ⟨la, lc, ka, kc, xs, rfl, _, hk, hr, hv⟩ := hv
  obtain ⟨b, o, rfl, hkc⟩ : ∃ b o, ka = some ⟨b, o, none⟩ ∧ ∀ i v, (strs keys4)[i]? = some v → w.cell? ⟨b, o + i, none⟩ = some v := by
    rcases hk with ⟨h, _⟩ | ⟨b, o, c, h1, _, h3⟩
    · simp [strs, keys4] at h
    · injection h1 with h1 _ _; exact ⟨b, o, h1, h3⟩
  obtain ⟨lb, lo, rfl, hlc⟩ : ∃ b o, la = some ⟨b, o, none⟩ ∧ ∀ i v, xs[i]? = some v → w.cell? ⟨b, o + i, none⟩ = some v := by
    rcases hr with h | ⟨b, o, h1, _, h3⟩
    · have := hv.length; rw [h] at this; simp at this
    · exact ⟨b, o, h1, h3⟩
  obtain ⟨ala, alc, aka, akc, hA⟩ := item_cells hv hlc 0 A rfl
  obtain ⟨bla, blc, bka, bkc, hB⟩ := item_cells hv hlc 1 B rfl
  obtain ⟨cla, clc, cka, ckc, hC⟩ := item_cells hv hlc 2 C rfl
  obtain ⟨dla, dlc, dka, dkc, hD⟩ := item_cells hv hlc 3 D rfl
  have HCC := Lib.hid fun w => r30_count_shape C (fun b e => by subst e; simpa only [GoodT] using hg.2.2.1) cla cka clc ckc w
  have HCD := Lib.hid fun w => r30_count_shape D (fun b e => by subst e; simpa only [GoodT] using hg.2.2.2) dla dka dlc dkc w
  clear hr hk hv
  obtain ⟨so1, hso1⟩ : ∃ x, x = ((headStep A).sort : Int) := ⟨_, rfl⟩
  obtain ⟨so2, hso2⟩ : ∃ x, x = ((headStep B).sort : Int) := ⟨_, rfl⟩
  obtain ⟨so3, hso3⟩ : ∃ x, x = ((headStep C).sort : Int) := ⟨_, rfl⟩
  obtain ⟨so4, hso4⟩ : ∃ x, x = ((headStep D).sort : Int) := ⟨_, rfl⟩
  obtain ⟨fl1, hfl1⟩ : ∃ x, x = (headStep A).flag := ⟨_, rfl⟩
  obtain ⟨fl2, hfl2⟩ : ∃ x, x = (headStep B).flag := ⟨_, rfl⟩
  obtain ⟨fl3, hfl3⟩ : ∃ x, x = (headStep C).flag := ⟨_, rfl⟩
  obtain ⟨fl4, hfl4⟩ : ∃ x, x = (headStep D).flag := ⟨_, rfl⟩
  obtain ⟨bi1, hbi1⟩ : ∃ x, x = ((headStep A).bits : Int) := ⟨_, rfl⟩
  obtain ⟨bi2, hbi2⟩ : ∃ x, x = ((headStep B).bits : Int) := ⟨_, rfl⟩
  obtain ⟨bi3, hbi3⟩ : ∃ x, x = ((headStep C).bits : Int) := ⟨_, rfl⟩
  obtain ⟨bi4, hbi4⟩ : ∃ x, x = ((headStep D).bits : Int) := ⟨_, rfl⟩
  obtain ⟨te1, hte1⟩ : ∃ x, x = (headStep A).text := ⟨_, rfl⟩
  obtain ⟨te2, hte2⟩ : ∃ x, x = (headStep B).text := ⟨_, rfl⟩
  obtain ⟨te3, hte3⟩ : ∃ x, x = (headStep C).text := ⟨_, rfl⟩
  obtain ⟨te4, hte4⟩ : ∃ x, x = (headStep D).text := ⟨_, rfl⟩
  obtain ⟨il1, hil1⟩ : ∃ x : Nat, x = (itemsT A).length := ⟨_, rfl⟩
  obtain ⟨il2, hil2⟩ : ∃ x : Nat, x = (itemsT B).length := ⟨_, rfl⟩
  obtain ⟨il3, hil3⟩ : ∃ x : Nat, x = (itemsT C).length := ⟨_, rfl⟩
  obtain ⟨il4, hil4⟩ : ∃ x : Nat, x = (itemsT D).length := ⟨_, rfl⟩
  obtain ⟨kl1, hkl1⟩ : ∃ x : Nat, x = (headStep A).keys.length := ⟨_, rfl⟩
  obtain ⟨kl2, hkl2⟩ : ∃ x : Nat, x = (headStep B).keys.length := ⟨_, rfl⟩
  obtain ⟨kl3, hkl3⟩ : ∃ x : Nat, x = (headStep C).keys.length := ⟨_, rfl⟩
  obtain ⟨kl4, hkl4⟩ : ∃ x : Nat, x = (headStep D).keys.length := ⟨_, rfl⟩
  rw [← hso1, ← hfl1, ← hbi1, ← hte1, ← hil1, ← hkl1] at hA
  rw [← hso2, ← hfl2, ← hbi2, ← hte2, ← hil2, ← hkl2] at hB
  rw [← hso3, ← hfl3, ← hbi3, ← hte3, ← hil3, ← hkl3] at hC HCC
  rw [← hso4, ← hfl4, ← hbi4, ← hte4, ← hil4, ← hkl4] at hD HCD
  rw [vC_arr] at HCC HCD
  have HSO := Lib.hid (And.intro hso1 (And.intro hso2 (And.intro hte1 hte2)))
  clear hso1 hso2 hso3 hso4 hfl1 hfl2 hfl3 hfl4 hbi1 hbi2 hbi3 hbi4 hte1 hte2 hte3 hte4 hil1 hil2 hil3 hil4 hkl1 hkl2 hkl3 hkl4
  obtain ⟨cn, hcn⟩ : ∃ x, x = cntN C := ⟨_, rfl⟩
  obtain ⟨dn, hdn⟩ : ∃ x, x = cntN D := ⟨_, rfl⟩
  obtain ⟨ci, hci⟩ : ∃ x, x = cntI cn := ⟨_, rfl⟩
  obtain ⟨di, hdi⟩ : ∃ x, x = cntI dn := ⟨_, rfl⟩
  rw [← hcn, ← hci] at HCC
  rw [← hdn, ← hdi] at HCD
  have HNN := Lib.hid (And.intro hcn (And.intro hdn (And.intro hci hdi)))
  clear hcn hdn hci hdi
  have HGD := Lib.hid hg
  clear hg
  obtain ⟨w0, hw0⟩ : ∃ x, x = (w.alloc (.cells (vC 6 false 0 noB (.slice (some ⟨lb, lo, none⟩) 4 lc) (.slice (some ⟨b, o, none⟩) 4 kc)).toArray 42)).alloc (.cells zer35.toArray 25) := ⟨_, rfl⟩
  have HX : Hid (Blk w0 w.heap.size (vC 6 false 0 noB (.slice (some ⟨lb, lo, none⟩) 4 lc) (.slice (some ⟨b, o, none⟩) 4 kc)) 42) := by rw [hw0]; exact Lib.hid ((Blk.new w _ _).alloc _)
  have HH : Hid (Blk w0 (w.heap.size + 1) zer35 25) := by rw [hw0]; exact Lib.hid (Blk.new1 w _ zer35 _)
  have HG0 : Hid (Chg w w0 []) := by rw [hw0]; exact Lib.hid (((Chg.refl w []).alloc _).alloc _)
  obtain ⟨x1, x2, x10, x11, x12, x13, x14, x15⟩ := Blk.cells6 HX.out
  have c0 : w0.cell? ⟨b, o, none⟩ = some (.string kO) := by have := HG0.out.keeps (hkc 0 _ rfl); rwa [Nat.add_zero] at this
  have c1 : w0.cell? ⟨b, o + 1, none⟩ = some (.string kR) := HG0.out.keeps (hkc 1 _ rfl)
  have c2 : w0.cell? ⟨b, o + 2, none⟩ = some (.string kS) := HG0.out.keeps (hkc 2 _ rfl)
  have c3 : w0.cell? ⟨b, o + 3, none⟩ = some (.string kT) := HG0.out.keeps (hkc 3 _ rfl)
  have q0 := kO_l
  have q1 := kR_l
  have q2 := kS_l
  have q3 := kT_l
  have HW := Lib.hid hw0
  have HRA : Hid (w0.rangeAt lb lo (vC so1 fl1 bi1 te1 (.slice ala il1 alc) (.slice aka kl1 akc))) := Lib.hid fun j v hj => HG0.out.keeps (hA j v hj)
  have HRB : Hid (w0.rangeAt lb (lo + 6) (vC so2 fl2 bi2 te2 (.slice bla il2 blc) (.slice bka kl2 bkc))) := Lib.hid fun j v hj => HG0.out.keeps (hB j v hj)
  have HRC : Hid (w0.rangeAt lb (lo + 12) (vC so3 fl3 bi3 te3 (.slice cla il3 clc) (.slice cka kl3 ckc))) := Lib.hid fun j v hj => HG0.out.keeps (hC j v hj)
  have HRD : Hid (w0.rangeAt lb (lo + 18) (vC so4 fl4 bi4 te4 (.slice dla il4 dlc) (.slice dka kl4 dkc))) := Lib.hid fun j v hj => HG0.out.keeps (hD j v hj)
  clear hw0 hkc hlc hA hB hC hD
  rw [vC_arr]
  show Calls _ _ #[.agg #[.int .i64 6, .bool false, .int .u64 0, .string noB, .slice (some ⟨lb, lo, none⟩) 4 lc, .slice (some ⟨b, o, none⟩) 4 kc]] _ _
  go_enter Tryz.func14, Tryz.ntmps14
  go_upto_region 1 with (fail)
  change Code.wp _ _ _ _ ((w.alloc (.cells (vC 6 false 0 noB (.slice (some ⟨lb, lo, none⟩) 4 lc) (.slice (some ⟨b, o, none⟩) 4 kc)).toArray 42)).alloc (.cells zer35.toArray 25))
  rw [← HW.out]
  go_upto_region 3 with (fail)
  refine wp_region_any (by kernel_rfl) ?_
  change wpAny _ _ _ _ _ _ _ (World.drew _)
  have hinf : (Tryz.prog.info? 42).map (·.size) = some 6 := info_val
  have hu := Tryz.underlying42
  refine wpAny_each2 _ (R3I w0) (R3V w.heap.size lb lo lc (vC so1 fl1 bi1 te1 (.slice ala il1 alc) (.slice aka kl1 akc)) (vC so2 fl2 bi2 te2 (.slice bla il2 blc) (.slice bka kl2 bkc)) (vC so3 fl3 bi3 te3 (.slice cla il3 clc) (.slice cka kl3 ckc)) (vC so4 fl4 bi4 te4 (.slice dla il4 dlc) (.slice dka kl4 dkc)) ci di) R3S (by kernel_rfl) ?_ ?_ ?_ _ ?_
  · intro i j f v wx wy hj hd h hI hs
    exact R3V.stable _ _ _ _ _ _ _ _ _ _ i j f v wx wy hj (fun e e2 => by subst e; subst e2; exact hd _ rfl ⟨18, .data⟩ (by simp) rfl rfl) (fun e e2 => by subst e; subst e2; exact hd _ rfl ⟨19, .data⟩ (by simp) rfl rfl) h hI hs
  · intro i op a wa ho hF hI hpre K hK
    have h1 : a.tmps.getD 1 undef = .pointer (some ⟨w.heap.size, 0, none⟩) := hF.at 1 (by kernel_rfl)
    have x14' := hI.1.keeps x14
    match i, ho with
    | 0, ho =>
      obtain rfl := Option.some.inj ho
      go_simp
      exact hK _ _ (by simp) (upd_same _ _ _) (R3S.plain (by decide) (by decide) (Chg.refl _ _)) (hI.step (by decide) (by decide) (Chg.refl _ _))
    | 1, ho =>
      obtain rfl := Option.some.inj ho
      have h52 : a.tmps.getD 52 undef = .pointer (some ⟨w.heap.size, 4, none⟩) := hpre ⟨0, .data⟩ (by simp) rfl
      go_simp
      exact hK _ _ (by simp) (upd_same _ _ _) (R3S.plain (by decide) (by decide) (Chg.refl _ _)) (hI.step (by decide) (by decide) (Chg.refl _ _))
    | 2, ho =>
      obtain rfl := Option.some.inj ho
      have h53 : a.tmps.getD 53 undef = .slice (some ⟨lb, lo, none⟩) 4 lc := hpre ⟨1, .data⟩ (by simp) rfl
      go_simp
      exact hK _ _ (by simp) (upd_same _ _ _) (R3S.plain (by decide) (by decide) (Chg.refl _ _)) (hI.step (by decide) (by decide) (Chg.refl _ _))
    | 3, ho =>
      obtain rfl := Option.some.inj ho
      have h54 : a.tmps.getD 54 undef = .pointer (some ⟨lb, lo, none⟩) := hpre ⟨2, .data⟩ (by simp) rfl
      have hrg : wa.rangeAt lb (lo) (vC so1 fl1 bi1 te1 (.slice ala il1 alc) (.slice aka kl1 akc)) := fun j v hv => hI.1.keeps (HRA.out j v hv)
      rw [if_pos (by rfl)]
      refine wp_load_mid _ _ rfl lb (lo) h54 (vC so1 fl1 bi1 te1 (.slice ala il1 alc) (.slice aka kl1 akc)) _ hrg hu rfl hinf ?_
      exact hK _ _ (by simp) (upd_same _ _ _) (R3S.plain (by decide) (by decide) (Chg.refl _ _)) (hI.step (by decide) (by decide) (Chg.refl _ _))
    | 4, ho =>
      obtain rfl := Option.some.inj ho
      go_simp
      exact hK _ _ (by simp) (upd_same _ _ _) (R3S.plain (by decide) (by decide) (Chg.refl _ _)) (hI.step (by decide) (by decide) (Chg.refl _ _))
    | 5, ho =>
      obtain rfl := Option.some.inj ho
      have h56 : a.tmps.getD 56 undef = .pointer (some ⟨w.heap.size, 4, none⟩) := hpre ⟨4, .data⟩ (by simp) rfl
      go_simp
      exact hK _ _ (by simp) (upd_same _ _ _) (R3S.plain (by decide) (by decide) (Chg.refl _ _)) (hI.step (by decide) (by decide) (Chg.refl _ _))
    | 6, ho =>
      obtain rfl := Option.some.inj ho
      have h57 : a.tmps.getD 57 undef = .slice (some ⟨lb, lo, none⟩) 4 lc := hpre ⟨5, .data⟩ (by simp) rfl
      go_simp
      exact hK _ _ (by simp) (upd_same _ _ _) (R3S.plain (by decide) (by decide) (Chg.refl _ _)) (hI.step (by decide) (by decide) (Chg.refl _ _))
    | 7, ho =>
      obtain rfl := Option.some.inj ho
      have h58 : a.tmps.getD 58 undef = .pointer (some ⟨lb, lo + 6, none⟩) := hpre ⟨6, .data⟩ (by simp) rfl
      have hrg : wa.rangeAt lb (lo + 6) (vC so2 fl2 bi2 te2 (.slice bla il2 blc) (.slice bka kl2 bkc)) := fun j v hv => hI.1.keeps (HRB.out j v hv)
      rw [if_pos (by rfl)]
      refine wp_load_mid _ _ rfl lb (lo + 6) h58 (vC so2 fl2 bi2 te2 (.slice bla il2 blc) (.slice bka kl2 bkc)) _ hrg hu rfl hinf ?_
      exact hK _ _ (by simp) (upd_same _ _ _) (R3S.plain (by decide) (by decide) (Chg.refl _ _)) (hI.step (by decide) (by decide) (Chg.refl _ _))
    | 8, ho =>
      obtain rfl := Option.some.inj ho
      go_simp
      exact hK _ _ (by simp) (upd_same _ _ _) (R3S.plain (by decide) (by decide) (Chg.refl _ _)) (hI.step (by decide) (by decide) (Chg.refl _ _))
    | 9, ho =>
      obtain rfl := Option.some.inj ho
      have h60 : a.tmps.getD 60 undef = .pointer (some ⟨w.heap.size, 4, none⟩) := hpre ⟨8, .data⟩ (by simp) rfl
      go_simp
      exact hK _ _ (by simp) (upd_same _ _ _) (R3S.plain (by decide) (by decide) (Chg.refl _ _)) (hI.step (by decide) (by decide) (Chg.refl _ _))
    | 10, ho =>
      obtain rfl := Option.some.inj ho
      have h61 : a.tmps.getD 61 undef = .slice (some ⟨lb, lo, none⟩) 4 lc := hpre ⟨9, .data⟩ (by simp) rfl
      go_simp
      exact hK _ _ (by simp) (upd_same _ _ _) (R3S.plain (by decide) (by decide) (Chg.refl _ _)) (hI.step (by decide) (by decide) (Chg.refl _ _))
    | 11, ho =>
      obtain rfl := Option.some.inj ho
      have h62 : a.tmps.getD 62 undef = .pointer (some ⟨lb, lo + 12, none⟩) := hpre ⟨10, .data⟩ (by simp) rfl
      have hrg : wa.rangeAt lb (lo + 12) (vC so3 fl3 bi3 te3 (.slice cla il3 clc) (.slice cka kl3 ckc)) := fun j v hv => hI.1.keeps (HRC.out j v hv)
      rw [if_pos (by rfl)]
      refine wp_load_mid _ _ rfl lb (lo + 12) h62 (vC so3 fl3 bi3 te3 (.slice cla il3 clc) (.slice cka kl3 ckc)) _ hrg hu rfl hinf ?_
      exact hK _ _ (by simp) (upd_same _ _ _) (R3S.plain (by decide) (by decide) (Chg.refl _ _)) (hI.step (by decide) (by decide) (Chg.refl _ _))
    | 13, ho =>
      obtain rfl := Option.some.inj ho
      go_simp
      exact hK _ _ (by simp) (upd_same _ _ _) (R3S.plain (by decide) (by decide) (Chg.refl _ _)) (hI.step (by decide) (by decide) (Chg.refl _ _))
    | 14, ho =>
      obtain rfl := Option.some.inj ho
      have h65 : a.tmps.getD 65 undef = .pointer (some ⟨w.heap.size, 4, none⟩) := hpre ⟨13, .data⟩ (by simp) rfl
      go_simp
      exact hK _ _ (by simp) (upd_same _ _ _) (R3S.plain (by decide) (by decide) (Chg.refl _ _)) (hI.step (by decide) (by decide) (Chg.refl _ _))
    | 15, ho =>
      obtain rfl := Option.some.inj ho
      have h66 : a.tmps.getD 66 undef = .slice (some ⟨lb, lo, none⟩) 4 lc := hpre ⟨14, .data⟩ (by simp) rfl
      go_simp
      exact hK _ _ (by simp) (upd_same _ _ _) (R3S.plain (by decide) (by decide) (Chg.refl _ _)) (hI.step (by decide) (by decide) (Chg.refl _ _))
    | 16, ho =>
      obtain rfl := Option.some.inj ho
      have h67 : a.tmps.getD 67 undef = .pointer (some ⟨lb, lo + 18, none⟩) := hpre ⟨15, .data⟩ (by simp) rfl
      have hrg : wa.rangeAt lb (lo + 18) (vC so4 fl4 bi4 te4 (.slice dla il4 dlc) (.slice dka kl4 dkc)) := fun j v hv => hI.1.keeps (HRD.out j v hv)
      rw [if_pos (by rfl)]
      refine wp_load_mid _ _ rfl lb (lo + 18) h67 (vC so4 fl4 bi4 te4 (.slice dla il4 dlc) (.slice dka kl4 dkc)) _ hrg hu rfl hinf ?_
      exact hK _ _ (by simp) (upd_same _ _ _) (R3S.plain (by decide) (by decide) (Chg.refl _ _)) (hI.step (by decide) (by decide) (Chg.refl _ _))
    | 12, ho =>
      obtain rfl := Option.some.inj ho
      have h63 : a.tmps.getD 63 undef = .agg (vC so3 fl3 bi3 te3 (.slice cla il3 clc) (.slice cka kl3 ckc)).toArray := hpre ⟨11, .data⟩ (by simp) rfl
      rw [vC_arr] at h63
      go_simp
      go_at_call 42
      refine (HCC.out _).mono ?_
      rintro e w1 ⟨rfl, hg1⟩
      exact hK _ _ (by simp) (upd_same _ _ _) (R3S.plain (by decide) (by decide) hg1) (hI.step (by decide) (by decide) hg1)
    | 17, ho =>
      obtain rfl := Option.some.inj ho
      have h68 : a.tmps.getD 68 undef = .agg (vC so4 fl4 bi4 te4 (.slice dla il4 dlc) (.slice dka kl4 dkc)).toArray := hpre ⟨16, .data⟩ (by simp) rfl
      rw [vC_arr] at h68
      go_simp
      go_at_call 42
      refine (HCD.out _).mono ?_
      rintro e w1 ⟨rfl, hg1⟩
      exact hK _ _ (by simp) (upd_same _ _ _) (R3S.plain (by decide) (by decide) hg1) (hI.step (by decide) (by decide) hg1)
    | 18, ho =>
      obtain rfl := Option.some.inj ho
      go_simp
      exact hK _ _ (by simp) ⟨wa.heap.size, upd_same _ _ _⟩ (R3S.plain (by decide) (by decide) ((Chg.refl wa []).alloc _)) (hI.new18 zV rfl)
    | 19, ho =>
      obtain rfl := Option.some.inj ho
      go_simp
      exact hK _ _ (by simp) ⟨wa.heap.size, upd_same _ _ _⟩ (R3S.plain (by decide) (by decide) ((Chg.refl wa []).alloc _)) (hI.new19 zV rfl)
    | 20, ho =>
      obtain rfl := Option.some.inj ho
      obtain ⟨g, h5⟩ : ∃ g, a.tmps.getD 5 undef = .pointer (some ⟨g, 0, none⟩) := hpre ⟨18, .data⟩ (by simp) rfl
      have h55 : a.tmps.getD 55 undef = .agg (vC so1 fl1 bi1 te1 (.slice ala il1 alc) (.slice aka kl1 akc)).toArray := hpre ⟨3, .data⟩ (by simp) rfl
      have hbk : blkOf (a.tmps.getD 5 undef) = some g := by rw [h5]; rfl
      obtain ⟨_, ds, hds, hB⟩ := hI.2.1 g hbk
      rw [if_pos (by rfl)]
      refine wp_store_row _ _ _ rfl g (vC so1 fl1 bi1 te1 (.slice ala il1 alc) (.slice aka kl1 akc)).toArray h5 h55 42 ds.toArray hB hinf (by rw [List.size_toArray]; exact hds) (Array.all_eq_true_iff_forall_mem.2 fun v hv => vC_one v (by simpa using hv)) ?_
      have hB' := hB.row (vC so1 fl1 bi1 te1 (.slice ala il1 alc) (.slice aka kl1 akc))
      have hC : Chg wa (wa.setRow g (vC so1 fl1 bi1 te1 (.slice ala il1 alc) (.slice aka kl1 akc)).toArray) [g] := (Chg.refl _ _).setRow _ _ (by simp)
      refine hK _ _ (fun _ => rfl) ⟨g, ?_, hB'⟩ ?_ (hI.put18 hbk hC hB' rfl)
      · exact (upd_other _ _ (by decide)).trans h5
      · show Chg _ _ (blkOf (a.tmps.getD 5 undef)).toList
        rw [h5]
        exact hC
    | 21, ho =>
      obtain rfl := Option.some.inj ho
      obtain ⟨g, h6⟩ : ∃ g, a.tmps.getD 6 undef = .pointer (some ⟨g, 0, none⟩) := hpre ⟨19, .data⟩ (by simp) rfl
      have h59 : a.tmps.getD 59 undef = .agg (vC so2 fl2 bi2 te2 (.slice bla il2 blc) (.slice bka kl2 bkc)).toArray := hpre ⟨7, .data⟩ (by simp) rfl
      have hbk : blkOf (a.tmps.getD 6 undef) = some g := by rw [h6]; rfl
      obtain ⟨_, ds, hds, hB⟩ := hI.2.2.1 g hbk
      rw [if_pos (by rfl)]
      refine wp_store_row _ _ _ rfl g (vC so2 fl2 bi2 te2 (.slice bla il2 blc) (.slice bka kl2 bkc)).toArray h6 h59 42 ds.toArray hB hinf (by rw [List.size_toArray]; exact hds) (Array.all_eq_true_iff_forall_mem.2 fun v hv => vC_one v (by simpa using hv)) ?_
      have hB' := hB.row (vC so2 fl2 bi2 te2 (.slice bla il2 blc) (.slice bka kl2 bkc))
      have hC : Chg wa (wa.setRow g (vC so2 fl2 bi2 te2 (.slice bla il2 blc) (.slice bka kl2 bkc)).toArray) [g] := (Chg.refl _ _).setRow _ _ (by simp)
      refine hK _ _ (fun _ => rfl) ⟨g, ?_, hB'⟩ ?_ (hI.put19 hbk hC hB' rfl)
      · exact (upd_other _ _ (by decide)).trans h6
      · show Chg _ _ (blkOf (a.tmps.getD 6 undef)).toList
        rw [h6]
        exact hC
    | 22, ho =>
      obtain rfl := Option.some.inj ho
      have h64 : a.tmps.getD 64 undef = .int .i64 ci := hpre ⟨12, .data⟩ (by simp) rfl
      go_simp
      exact hK _ _ (by simp) (upd_same _ _ _) (R3S.plain (by decide) (by decide) (Chg.refl _ _)) (hI.step (by decide) (by decide) (Chg.refl _ _))
    | 23, ho =>
      obtain rfl := Option.some.inj ho
      have h69 : a.tmps.getD 69 undef = .int .i64 di := hpre ⟨17, .data⟩ (by simp) rfl
      go_simp
      exact hK _ _ (by simp) (upd_same _ _ _) (R3S.plain (by decide) (by decide) (Chg.refl _ _)) (hI.step (by decide) (by decide) (Chg.refl _ _))
    | _ + 24, ho => exact absurd ho (by simp)
  · intro a wc hF hI hV
    obtain ⟨B1, h5, hb1⟩ : ∃ g, a.tmps.getD 5 undef = .pointer (some ⟨g, 0, none⟩) ∧ Blk wc g (vC so1 fl1 bi1 te1 (.slice ala il1 alc) (.slice aka kl1 akc)) 42 := hV 20 (by decide)
    obtain ⟨B2, h6, hb2⟩ : ∃ g, a.tmps.getD 6 undef = .pointer (some ⟨g, 0, none⟩) ∧ Blk wc g (vC so2 fl2 bi2 te2 (.slice bla il2 blc) (.slice bka kl2 bkc)) 42 := hV 21 (by decide)
    have h7 : a.tmps.getD 7 undef = .int .i64 ci := hV 22 (by decide)
    have h8 : a.tmps.getD 8 undef = .int .i64 di := hV 23 (by decide)
    have hg4 := hI.1
    have hfm := hF.form' [52, 53, 54, 55, 56, 57, 58, 59, 60, 61, 62, 63, 64, 65, 66, 67, 68, 69, 5, 6, 7, 8] (by kernel_rfl)
    have hdf := hF.defers
    obtain ⟨tm, df⟩ := a
    clear hI hV hF
    dsimp only at hfm hdf h5 h6 h7 h8
    simp only [List.foldl_cons, List.foldl_nil] at hfm
    rw [h5, h6, h7, h8] at hfm
    obtain ⟨u52, hu52⟩ : ∃ x, x = tm.getD 52 undef := ⟨_, rfl⟩
    obtain ⟨u53, hu53⟩ : ∃ x, x = tm.getD 53 undef := ⟨_, rfl⟩
    obtain ⟨u54, hu54⟩ : ∃ x, x = tm.getD 54 undef := ⟨_, rfl⟩
    obtain ⟨u55, hu55⟩ : ∃ x, x = tm.getD 55 undef := ⟨_, rfl⟩
    obtain ⟨u56, hu56⟩ : ∃ x, x = tm.getD 56 undef := ⟨_, rfl⟩
    obtain ⟨u57, hu57⟩ : ∃ x, x = tm.getD 57 undef := ⟨_, rfl⟩
    obtain ⟨u58, hu58⟩ : ∃ x, x = tm.getD 58 undef := ⟨_, rfl⟩
    obtain ⟨u59, hu59⟩ : ∃ x, x = tm.getD 59 undef := ⟨_, rfl⟩
    obtain ⟨u60, hu60⟩ : ∃ x, x = tm.getD 60 undef := ⟨_, rfl⟩
    obtain ⟨u61, hu61⟩ : ∃ x, x = tm.getD 61 undef := ⟨_, rfl⟩
    obtain ⟨u62, hu62⟩ : ∃ x, x = tm.getD 62 undef := ⟨_, rfl⟩
    obtain ⟨u63, hu63⟩ : ∃ x, x = tm.getD 63 undef := ⟨_, rfl⟩
    obtain ⟨u64, hu64⟩ : ∃ x, x = tm.getD 64 undef := ⟨_, rfl⟩
    obtain ⟨u65, hu65⟩ : ∃ x, x = tm.getD 65 undef := ⟨_, rfl⟩
    obtain ⟨u66, hu66⟩ : ∃ x, x = tm.getD 66 undef := ⟨_, rfl⟩
    obtain ⟨u67, hu67⟩ : ∃ x, x = tm.getD 67 undef := ⟨_, rfl⟩
    obtain ⟨u68, hu68⟩ : ∃ x, x = tm.getD 68 undef := ⟨_, rfl⟩
    obtain ⟨u69, hu69⟩ : ∃ x, x = tm.getD 69 undef := ⟨_, rfl⟩
    rw [← hu52, ← hu53, ← hu54, ← hu55, ← hu56, ← hu57, ← hu58, ← hu59, ← hu60, ← hu61, ← hu62, ← hu63, ← hu64, ← hu65, ← hu66, ← hu67, ← hu68, ← hu69] at hfm
    clear hu52 hu53 hu54 hu55 hu56 hu57 hu58 hu59 hu60 hu61 hu62 hu63 hu64 hu65 hu66 hu67 hu68 hu69 h5 h6 h7 h8
    simp only [List.setIfInBounds_toArray, List.set_cons_zero, List.set_cons_succ] at hfm
    subst hfm
    subst hdf
    obtain ⟨w4, hw4⟩ : ∃ y, y = wc := ⟨_, rfl⟩
    rw [← hw4] at hb1 hb2 hg4 ⊢
    clear hw4
    have HB1 := Lib.hid hb1
    have HB2 := Lib.hid hb2
    have HG4 := Lib.hid (HG0.out.trans hg4)
    have HH4 := Lib.hid (HH.out.kept hg4 (by simp))
    obtain ⟨u1, u2, u10, u11, u12, u13, u14, u15⟩ := Blk.cells6 hb1
    obtain ⟨z1, z2, z10, z11, z12, z13, z14, z15⟩ := Blk.cells6 hb2
    clear hb1 hb2 hg4 HRA HRB HRC HRD HCC HCD c0 c1 c2 c3 x1 x2 x10 x11 x12 x13 x14 x15 q0 q1 q2 q3 hinf hu HX HH HG0 HW
    by_cases hA : isText A = true
    · obtain ⟨s, rfl⟩ : ∃ s, A = .text s := by cases A <;> simp [isText] at hA; exact ⟨_, rfl⟩
      obtain rfl : so1 = 4 := HSO.out.1
      obtain rfl : te1 = s := HSO.out.2.2.1
      have hsz : te1.size ≤ 2147483648 := by have := HGD.out.1; simp only [GoodT] at this; omega
      have HO := Lib.hid fun w => r30_origin te1 w hsz
      by_cases ho : originB te1 = true
      · have HOY := Lib.hid ho
        rw [ho] at HO
        clear hsz ho
        have hte2 : te2 = textT B := HSO.out.2.2.2.trans (head_text B)
        have hs2 : te2.size ≤ 2147483648 := by
          rw [hte2]
          have hgB := HGD.out.2.1
          cases B with
          | text s => simp only [GoodT] at hgB; exact Nat.le_trans hgB.2 (by decide)
          | _ => exact Nat.zero_le _
        have HR6 := Lib.hid fun w => r6_Read te2 hs2 w
        clear hs2
        by_cases hB : isText B = true
        · have hs4 : so2 = 4 := by rw [HSO.out.2.1]; cases B <;> simp [isText] at hB; rfl
          by_cases hx : hexOK te2 = true
          · by_cases h32 : te2.size / 2 = 32
            · have hdg : digOK te2 = true := by unfold digOK; rw [hx]; unfold hexOK at hx; simp only [Bool.and_eq_true, decide_eq_true_eq] at hx; simp; omega
              have HDG := Lib.hid hdg
              obtain ⟨rb, hrb⟩ : ∃ x, x = rbOf te2 := ⟨_, rfl⟩
              have hrl : rb.length = 32 := by rw [hrb]; exact rbOf_length _
              have HRL := Lib.hid hrl
              have HRB := Lib.hid hrb
              have HRD : Hid (∀ w, Calls Tryz.prog 43 #[.int .i64 1, .string te2] w fun e w' => (∃ g, e = .returned (.tuple #[.slice (some ⟨g, 0, none⟩) 32 32, .int .i64 0, .int .i64 0]) ∧ Blk w' g (rb.map byV) 5) ∧ Chg w w' []) := Lib.hid fun w => (HR6.out w).mono fun e w' h => by
                refine ⟨?_, h.2⟩
                rcases h.1 with ⟨_, g, h2, h3⟩ | ⟨h2, _⟩
                · rw [h32] at h2 h3
                  exact ⟨g, h2, by rw [hrb, ← unhex_rb hdg]; exact h3⟩
                · rw [hx] at h2; cases h2
              have HH2 : Hid (isText B = true ∧ te2 = textT B) := Lib.hid ⟨hB, hte2⟩
              clear HR6 hx h32 hdg hrb hB hte2 hrl
              subst hs4
              go_upto_region 9 with (first
                | (go_at_call 23; refine (HO.out _).mono ?_; rintro e wz ⟨rfl, rfl⟩)
                | (go_at_call 43; refine (HRD.out _).mono ?_; rintro e w5 ⟨⟨g, rfl, hbg⟩, hg5⟩; have HG5 := Lib.hid (HG4.out.trans hg5); have HH5 := Lib.hid (HH4.out.kept hg5 (by simp)); have y13 := hg5.keeps u13; have y10 := hg5.keeps z10; have HBG := Lib.hid hbg; clear hbg hg5))
              clear u1 u2 u10 u11 u12 u13 u14 u15 z1 z2 z10 z11 z12 z13 z14 z15 HRD HO HG4 HH4 HB1 HB2
              go_upto_region 10 with (first
                | (refine wpList_run (.agg (hdL te1 ci z32 di).toArray) (Op.build 25 #[(0, .tmp 101), (1, .tmp 102), (3, .tmp 103)]) rfl rfl (by kernel_rfl) ?_)
                | (refine wpList_store_blk rfl _ _ _ rfl w5.heap.size (hdL te1 ci z32 di) rfl rfl 25 zer35 (Blk.new w5 zer35 _) (info_hd35 _ _ _ _ rfl) (by rfl) (hdL_one _ _ _ _) ?_; intro w6 hz6 hB6 hg6))
              obtain ⟨H, hH⟩ : ∃ x, x = w5.heap.size := ⟨_, rfl⟩
              have hg6' : Chg w5 w6 [] := ((Chg.refl w5 []).alloc _).fresh hg6 (by simp)
              have HG6 := Lib.hid (HG5.out.trans hg6')
              have HH6 := Lib.hid (HH5.out.kept hg6' (by simp))
              have HBG6 := Lib.hid (HBG.out.kept hg6' (by simp))
              have hgH : g ≠ H := by have := HBG.out.lt; omega
              have hwH : w.heap.size + 1 ≠ H := by have := HH5.out.lt; omega
              have hwl : w.heap.size ≤ H := by have := HH5.out.lt; omega
              rw [← hH] at hB6 ⊢
              have HB6 := Lib.hid hB6
              have HNE := Lib.hid (And.intro hgH (And.intro hwH hwl))
              clear hH hz6 hg6 hB6 hg6' hgH hwH hwl y13 y10 HG5 HH5 HBG
              go_wp2_with fail
              go_loopw [13] (fun v13 wr => ∃ i : Nat, i ≤ 32 ∧ v13 = .int .i64 i ∧ Blk wr H (hdL te1 ci (rb.take i ++ List.replicate (32 - i) 0) di) 25 ∧ Chg w6 wr [H]) (fun v13 _ => 32 - (intOf v13).toNat)
              case atStart => exact ⟨0, by omega, rfl, HB6.out, Chg.refl _ _⟩
              case round =>
                obtain ⟨wa, rfl⟩ : ∃ x, x = wr := ⟨_, rfl⟩
                obtain ⟨i, hi, rfl, hbl, hgl⟩ := hrel
                have HBL := Lib.hid hbl
                have HGL := Lib.hid hgl
                by_cases hlt : i < 32
                · have hfz : ∀ j, wa.frozen? ⟨H, j, none⟩ = false := fun j => hbl.frozen j
                  have hlH := hbl.lt
                  have hby : (rb.map byV)[i]? = some (byV (rb[i]'(by rw [HRL.out]; exact hlt))) := by rw [List.getElem?_map, List.getElem?_eq_getElem]; rfl
                  have hbv : wa.cell? ⟨g, i, none⟩ = some (.int .u8 ((rb[i]'(by rw [HRL.out]; exact hlt)).toNat)) := (hgl.cell (p := ⟨g, i, none⟩) HBG6.out.lt (by simpa using HNE.out.1)).trans ((HBG6.out.cell i).trans hby)
                  have hcl : wa.cell? ⟨H, 2 + i, none⟩ = some (.int .u8 0) := (hbl.cell (2 + i)).trans (hdL_zero _ _ _ _ HRL.out hlt)
                  have HNX := Lib.hid (hdL_step te1 ci rb di HRL.out hlt)
                  obtain ⟨bt, hbt⟩ : ∃ x, x = (rb[i]'(by rw [HRL.out]; exact hlt)) := ⟨_, rfl⟩
                  rw [← hbt] at hbv HNX
                  clear hby hbl hgl hbt
                  go_wp2_with fail
                  go_roundw
                  case rel => exact ⟨i + 1, by omega, by go_num, (HBL.out.set (2 + i) _).eq HNX.out, HGL.out.setCell _ _ (by simp)⟩
                  case measure => simp [intOf]; omega
                · obtain rfl : i = 32 := by omega
                  have hbf : Blk wa H (hdL te1 ci rb di) 25 := by
                    have := hbl
                    rwa [List.take_of_length_le (Nat.le_of_eq HRL.out), Nat.sub_self, List.replicate_zero, List.append_nil] at this
                  have HBF := Lib.hid hbf
                  have HHL := Lib.hid (HH6.out.kept hgl (by simpa using HNE.out.2.1))
                  have HGT : Hid (Chg w wa []) := Lib.hid (HG6.out.fresh hgl (fun k hk => by simp at hk; subst hk; exact HNE.out.2.2))
                  have hB1 : (isText B && digOK (textT B)) = true := by rw [← HH2.out.2, HH2.out.1, HDG.out]; rfl
                  have hA1 : ¬ (isText (.text te1) && originB (textT (.text te1))) = false := by simp [isText, textT, HOY.out]
                  have HAB := Lib.hid (And.intro hA1 hB1)
                  have hrbB : rbOf (textT B) = rb := by rw [← HH2.out.2]; exact HRB.out.symm
                  have HRBB := Lib.hid hrbB
                  clear hbl hgl HBL HGL hlt hi hbf hA1 hB1 hrbB HB6 HBG6 HH6 HG6
                  obtain ⟨hcn, hdn, hci, hdi⟩ := HNN.out
                  rcases hcv : cn with _ | k
                  · obtain rfl : ci = -1 := by rw [hci, hcv]; rfl
                    have hbad : headBad (.text te1) B C D = some pS := by
                      unfold headBad
                      rw [if_neg HAB.out.1, if_neg (by rw [HAB.out.2]; simp)]
                      rw [← hcn, hcv]
                    have HBAD := Lib.hid hbad
                    clear hbad hcn hdn hci hdi hcv
                    go_wp2_with (first | (refine wpList_run (.agg zer35.toArray) (Op.build 25 #[]) rfl rfl (by kernel_rfl) ?_) | (refine wpList_store_blk rfl _ _ _ rfl (w.heap.size + 1) (zer35) (by rfl) (by rfl) 25 zer35 HHL.out (info_hd35 _ _ _ _ rfl) rfl (hdL_one _ _ _ _) ?_; intro w19 hz19 hB19 hg19; clear hz19))
                    refine bodyPost_ret (results_blk_tmp2 rfl _ _ (w.heap.size + 1) 25 (zer35) _ rfl hB19 Tryz.underlying25 rfl (info_hd35 _ _ _ _ rfl)) rfl ?_
                    unfold R30Four
                    rw [HBAD.out]
                    exact ⟨rfl, HGT.out.fresh hg19 (fun i hi => by simp at hi; omega)⟩
                  · by_cases h0 : k = 0
                    · obtain rfl : ci = 0 := by rw [hci, hcv, h0]; rfl
                      have hu := Tryz.underlying23
                      have hi : (Tryz.prog.info? 23).map (·.size) = some (rb.map byV).length := by rw [List.length_map, HRL.out]; exact info_dg
                      have HRG : Hid (wa.rangeAt H 2 (rb.map byV)) := Lib.hid fun j v hv => (HBF.out.cell (2 + j)).trans (hdL_2 _ _ _ _ _ _ hv)
                      by_cases hem : (rb == noD) = true
                      · have HE : Hid (∀ w, Calls Tryz.prog 24 #[.agg (rb.map byV).toArray] w fun e w' => e = .returned (.bool true) ∧ Chg w w' []) := Lib.hid fun w => by
                          have h := r30_empty noD r27_Empty noD_length rb HRL.out w
                          rwa [hem] at h
                        have HEM := Lib.hid hem
                        clear hem
                        rcases hdv : dn with _ | m
                        · obtain rfl : di = -1 := by rw [hdi, hdv]; rfl
                          have hbad : headBad (.text te1) B C D = some pT := by
                            unfold headBad
                            rw [if_neg HAB.out.1, if_neg (by rw [HAB.out.2]; simp)]
                            rw [← hcn, ← hdn, hcv, hdv]
                            subst h0; simp [HRBB.out, HEM.out]
                          have HBAD := Lib.hid hbad
                          clear hbad hcn hdn hci hdi hcv hdv
                          go_wp2_with (first
                            | (refine wpList_load_midG 23 _ rfl H 2 rfl (rb.map byV) _ HRG.out hu rfl hi (by rfl) ?_)
                            | (go_at_call 24; refine (HE.out _).mono ?_; rintro e wz ⟨rfl, hgz⟩; have HGZ := Lib.hid (HGT.out.trans hgz); have HBZ := Lib.hid (HBF.out.kept hgz (by simp)); have HHZ := Lib.hid (HHL.out.kept hgz (by simp)); clear hgz)
                            | (refine wpList_run (.agg zer35.toArray) (Op.build 25 #[]) rfl rfl (by kernel_rfl) ?_) | (refine wpList_store_blk rfl _ _ _ rfl (w.heap.size + 1) (zer35) (by rfl) (by rfl) 25 zer35 HHZ.out (info_hd35 _ _ _ _ rfl) rfl (hdL_one _ _ _ _) ?_; intro w19 hz19 hB19 hg19; clear hz19))
                          refine bodyPost_ret (results_blk_tmp2 rfl _ _ (w.heap.size + 1) 25 (zer35) _ rfl hB19 Tryz.underlying25 rfl (info_hd35 _ _ _ _ rfl)) rfl ?_
                          unfold R30Four
                          rw [HBAD.out]
                          exact ⟨rfl, HGZ.out.fresh hg19 (fun i hi => by simp at hi; omega)⟩
                        · obtain rfl : di = (m : Int) := by rw [hdi, hdv]; rfl
                          have hbad : headBad (.text te1) B C D = none := by
                            unfold headBad
                            rw [if_neg HAB.out.1, if_neg (by rw [HAB.out.2]; simp)]
                            rw [← hcn, ← hdn, hcv, hdv]
                            subst h0; simp [HRBB.out, HEM.out]
                          have HBAD := Lib.hid hbad
                          have hfi : hdL (textT (.text te1)) (cntI (cntN C)) (rbOf (textT B)) (cntI (cntN D)) = hdL te1 0 rb m := by rw [HRBB.out, ← hcn, ← hdn, hcv, hdv]; first | rfl | (subst h0; rfl)
                          have HFI := Lib.hid hfi
                          have d5 : decide ((m : Int) < 0) = false := by simp <;> omega
                          clear hbad hfi hcn hdn hci hdi hcv hdv
                          go_wp2_with (first
                            | (refine wpList_load_midG 23 _ rfl H 2 rfl (rb.map byV) _ HRG.out hu rfl hi (by rfl) ?_)
                            | (go_at_call 24; refine (HE.out _).mono ?_; rintro e wz ⟨rfl, hgz⟩; have HGZ := Lib.hid (HGT.out.trans hgz); have HBZ := Lib.hid (HBF.out.kept hgz (by simp)); have HHZ := Lib.hid (HHL.out.kept hgz (by simp)); clear hgz)
                            | (refine wpList_load_blk rfl _ _ rfl H rfl 25 (hdL te1 0 rb m) HBZ.out _ Tryz.underlying25 rfl (info_hd35 _ _ _ _ HRL.out) ?_)
                            | (refine wpList_store_blk rfl _ _ _ rfl (w.heap.size + 1) (hdL te1 0 rb m) (by rfl) (by rfl) 25 zer35 HHZ.out (info_hd35 _ _ _ _ HRL.out) (by rw [hdL_length, HRL.out]; rfl) (hdL_one _ _ _ _) ?_; intro w19 hz19 hB19 hg19; clear hz19))
                          refine bodyPost_ret (results_blk_tmp2 rfl _ _ (w.heap.size + 1) 25 (hdL te1 0 rb m) _ rfl hB19 Tryz.underlying25 rfl (info_hd35 _ _ _ _ HRL.out)) rfl ?_
                          unfold R30Four
                          rw [HBAD.out]
                          exact ⟨by rw [HFI.out]; rfl, HGZ.out.fresh hg19 (fun i hi => by simp at hi; omega)⟩
                      · have hem : (rb == noD) = false := by simpa using hem
                        have HE : Hid (∀ w, Calls Tryz.prog 24 #[.agg (rb.map byV).toArray] w fun e w' => e = .returned (.bool false) ∧ Chg w w' []) := Lib.hid fun w => by
                          have h := r30_empty noD r27_Empty noD_length rb HRL.out w
                          rwa [hem] at h
                        have hbad : headBad (.text te1) B C D = some pR := by
                          unfold headBad
                          rw [if_neg HAB.out.1, if_neg (by rw [HAB.out.2]; simp)]
                          rw [← hcn, hcv]
                          show (if k = 0 ∧ (rbOf (textT B) == noD) = false then some pR else _) = some pR
                          rw [if_pos ⟨h0, by rw [HRBB.out]; exact hem⟩]
                        have HBAD := Lib.hid hbad
                        clear hbad hcn hdn hci hdi hcv hem h0
                        go_wp2_with (first
                          | (refine wpList_load_midG 23 _ rfl H 2 rfl (rb.map byV) _ HRG.out hu rfl hi (by rfl) ?_)
                          | (go_at_call 24; refine (HE.out _).mono ?_; rintro e wz ⟨rfl, hgz⟩; have HGZ := Lib.hid (HGT.out.trans hgz); have HHZ := Lib.hid (HHL.out.kept hgz (by simp)); clear hgz)
                          | (refine wpList_run (.agg zer35.toArray) (Op.build 25 #[]) rfl rfl (by kernel_rfl) ?_) | (refine wpList_store_blk rfl _ _ _ rfl (w.heap.size + 1) (zer35) (by rfl) (by rfl) 25 zer35 HHZ.out (info_hd35 _ _ _ _ rfl) rfl (hdL_one _ _ _ _) ?_; intro w19 hz19 hB19 hg19; clear hz19))
                        refine bodyPost_ret (results_blk_tmp2 rfl _ _ (w.heap.size + 1) 25 (zer35) _ rfl hB19 Tryz.underlying25 rfl (info_hd35 _ _ _ _ rfl)) rfl ?_
                        unfold R30Four
                        rw [HBAD.out]
                        exact ⟨rfl, HGZ.out.fresh hg19 (fun i hi => by simp at hi; omega)⟩
                    · obtain rfl : ci = (k : Int) := by rw [hci, hcv]; rfl
                      have d3 : decide ((k : Int) < 0) = false := by simp <;> omega
                      have d4 : ((k : Int) == 0) = false := by rw [beq_eq_false_iff_ne]; omega
                      rcases hdv : dn with _ | m
                      · obtain rfl : di = -1 := by rw [hdi, hdv]; rfl
                        have hbad : headBad (.text te1) B C D = some pT := by
                          unfold headBad
                          rw [if_neg HAB.out.1, if_neg (by rw [HAB.out.2]; simp)]
                          rw [← hcn, ← hdn, hcv, hdv]
                          simp [h0]
                        have HBAD := Lib.hid hbad
                        clear hbad hcn hdn hci hdi hcv hdv
                        go_wp2_with (first
                          | (refine wpList_run (.agg zer35.toArray) (Op.build 25 #[]) rfl rfl (by kernel_rfl) ?_) | (refine wpList_store_blk rfl _ _ _ rfl (w.heap.size + 1) (zer35) (by rfl) (by rfl) 25 zer35 HHL.out (info_hd35 _ _ _ _ rfl) rfl (hdL_one _ _ _ _) ?_; intro w19 hz19 hB19 hg19; clear hz19))
                        refine bodyPost_ret (results_blk_tmp2 rfl _ _ (w.heap.size + 1) 25 (zer35) _ rfl hB19 Tryz.underlying25 rfl (info_hd35 _ _ _ _ rfl)) rfl ?_
                        unfold R30Four
                        rw [HBAD.out]
                        exact ⟨rfl, HGT.out.fresh hg19 (fun i hi => by simp at hi; omega)⟩
                      · obtain rfl : di = (m : Int) := by rw [hdi, hdv]; rfl
                        have hbad : headBad (.text te1) B C D = none := by
                          unfold headBad
                          rw [if_neg HAB.out.1, if_neg (by rw [HAB.out.2]; simp)]
                          rw [← hcn, ← hdn, hcv, hdv]
                          simp [h0]
                        have HBAD := Lib.hid hbad
                        have hfi : hdL (textT (.text te1)) (cntI (cntN C)) (rbOf (textT B)) (cntI (cntN D)) = hdL te1 k rb m := by rw [HRBB.out, ← hcn, ← hdn, hcv, hdv]; first | rfl | (subst h0; rfl)
                        have HFI := Lib.hid hfi
                        have d5 : decide ((m : Int) < 0) = false := by simp <;> omega
                        clear hbad hfi hcn hdn hci hdi hcv hdv
                        go_wp2_with (first
                          | (refine wpList_load_blk rfl _ _ rfl H rfl 25 (hdL te1 k rb m) HBF.out _ Tryz.underlying25 rfl (info_hd35 _ _ _ _ HRL.out) ?_)
                          | (refine wpList_store_blk rfl _ _ _ rfl (w.heap.size + 1) (hdL te1 k rb m) (by rfl) (by rfl) 25 zer35 HHL.out (info_hd35 _ _ _ _ HRL.out) (by rw [hdL_length, HRL.out]; rfl) (hdL_one _ _ _ _) ?_; intro w19 hz19 hB19 hg19; clear hz19))
                        refine bodyPost_ret (results_blk_tmp2 rfl _ _ (w.heap.size + 1) 25 (hdL te1 k rb m) _ rfl hB19 Tryz.underlying25 rfl (info_hd35 _ _ _ _ HRL.out)) rfl ?_
                        unfold R30Four
                        rw [HBAD.out]
                        exact ⟨by rw [HFI.out]; rfl, HGT.out.fresh hg19 (fun i hi => by simp at hi; omega)⟩
            · have hdg : digOK te2 = false := by unfold digOK; rw [Bool.and_eq_false_iff]; right; simp; omega
              have hbad : headBad (.text te1) B C D = some pR := by unfold headBad; rw [if_neg (by simp [isText, textT, HOY.out]), if_pos (by rw [← hte2, hdg]; simp)]
              have HBAD := Lib.hid hbad
              obtain ⟨n2, hn2⟩ : ∃ x, x = te2.size / 2 := ⟨_, rfl⟩
              have HRD : Hid (∀ w, Calls Tryz.prog 43 #[.int .i64 1, .string te2] w fun e w' => (∃ g, e = .returned (.tuple #[.slice (some ⟨g, 0, none⟩) n2 n2, .int .i64 0, .int .i64 0])) ∧ Chg w w' []) := Lib.hid fun w => (HR6.out w).mono fun e w' h => by
                refine ⟨?_, h.2⟩
                rcases h.1 with ⟨_, g, h2, h3⟩ | ⟨h2, _⟩
                · exact ⟨g, by rw [hn2]; exact h2⟩
                · rw [hx] at h2; cases h2
              have d32 : ((n2 : Int) != 32) = true := by rw [bne_iff_ne]; omega
              clear HR6 hx h32 hdg hB hte2 hbad hn2
              subst hs4
              go_wp2_with (first
                | (go_at_call 23; refine (HO.out _).mono ?_; rintro e wz ⟨rfl, rfl⟩)
                | (go_at_call 43; refine (HRD.out _).mono ?_; rintro e w5 ⟨⟨g, rfl⟩, hg5⟩; have HG5 := Lib.hid (HG4.out.trans hg5); have HH5 := Lib.hid (HH4.out.kept hg5 (by simp)); have y13 := hg5.keeps u13; have y10 := hg5.keeps z10; clear hg5)
                | (refine wpList_run (.agg zer35.toArray) (Op.build 25 #[]) rfl rfl (by kernel_rfl) ?_) | (refine wpList_store_blk rfl _ _ _ rfl (w.heap.size + 1) (zer35) (by rfl) (by rfl) 25 zer35 HH5.out (info_hd35 _ _ _ _ rfl) rfl (hdL_one _ _ _ _) ?_; intro w19 hz19 hB19 hg19; clear hz19))
              refine bodyPost_ret (results_blk_tmp2 rfl _ _ (w.heap.size + 1) 25 (zer35) _ rfl hB19 Tryz.underlying25 rfl (info_hd35 _ _ _ _ rfl)) rfl ?_
              unfold R30Four
              rw [HBAD.out]
              exact ⟨rfl, HG5.out.fresh hg19 (fun i hi => by simp at hi; omega)⟩
          · have hdg : digOK te2 = false := by unfold digOK; rw [Bool.and_eq_false_iff]; left; simpa using hx
            have hbad : headBad (.text te1) B C D = some pR := by unfold headBad; rw [if_neg (by simp [isText, textT, HOY.out]), if_pos (by rw [← hte2, hdg]; simp)]
            have HBAD := Lib.hid hbad
            have HRD : Hid (∀ w, Calls Tryz.prog 43 #[.int .i64 1, .string te2] w fun e w' => (∃ v k a, k ≠ 0 ∧ e = .returned (.tuple #[v, .int .i64 k, .int .i64 a])) ∧ Chg w w' []) := Lib.hid fun w => (HR6.out w).mono fun e w' h => by
              refine ⟨?_, h.2⟩
              rcases h.1 with ⟨h2, _⟩ | ⟨_, h2⟩
              · rw [h2] at hx; exact absurd rfl hx
              · exact h2
            clear HR6 hx hdg hB hte2 hbad
            subst hs4
            go_wp2_with (first
              | (go_at_call 23; refine (HO.out _).mono ?_; rintro e wz ⟨rfl, rfl⟩)
              | (go_at_call 43; refine (HRD.out _).mono ?_; rintro e w5 ⟨⟨v, k, a, hk, rfl⟩, hg5⟩; have HG5 := Lib.hid (HG4.out.trans hg5); have HH5 := Lib.hid (HH4.out.kept hg5 (by simp)); have y13 := hg5.keeps u13; have y10 := hg5.keeps z10; have dk : ((k : Int) != 0) = true := (by rw [bne_iff_ne]; exact hk); clear hg5 hk)
              | (refine wpList_run (.agg zer35.toArray) (Op.build 25 #[]) rfl rfl (by kernel_rfl) ?_) | (refine wpList_store_blk rfl _ _ _ rfl (w.heap.size + 1) (zer35) (by rfl) (by rfl) 25 zer35 HH5.out (info_hd35 _ _ _ _ rfl) rfl (hdL_one _ _ _ _) ?_; intro w19 hz19 hB19 hg19; clear hz19))
            refine bodyPost_ret (results_blk_tmp2 rfl _ _ (w.heap.size + 1) 25 (zer35) _ rfl hB19 Tryz.underlying25 rfl (info_hd35 _ _ _ _ rfl)) rfl ?_
            unfold R30Four
            rw [HBAD.out]
            exact ⟨rfl, HG5.out.fresh hg19 (fun i hi => by simp at hi; omega)⟩
        · have hbad : headBad (.text te1) B C D = some pR := by unfold headBad; rw [if_neg (by simp [isText, textT, HOY.out]), if_pos (by simp [hB])]
          have HBAD := Lib.hid hbad
          have HRD : Hid (∀ w, Calls Tryz.prog 43 #[.int .i64 1, .string te2] w fun e w' => (∃ v k a, e = .returned (.tuple #[v, .int .i64 k, .int .i64 a])) ∧ Chg w w' []) := Lib.hid fun w => (HR6.out w).mono fun e w' h => by
            refine ⟨?_, h.2⟩
            rcases h.1 with ⟨_, g, h2, _⟩ | ⟨_, v, k, a, _, h2⟩
            · exact ⟨_, _, _, h2⟩
            · exact ⟨_, _, _, h2⟩
          have d4 : ((so2 : Int) != 4) = true := by rw [bne_iff_ne, HSO.out.2.1]; cases B <;> simp [isText] at hB <;> simp [headStep]
          clear HR6 hB hte2 hbad
          go_wp2_with (first
            | (go_at_call 23; refine (HO.out _).mono ?_; rintro e wz ⟨rfl, rfl⟩)
            | (go_at_call 43; refine (HRD.out _).mono ?_; rintro e w5 ⟨⟨v, k, a, rfl⟩, hg5⟩; have HG5 := Lib.hid (HG4.out.trans hg5); have HH5 := Lib.hid (HH4.out.kept hg5 (by simp)); have y13 := hg5.keeps u13; have y10 := hg5.keeps z10; clear hg5)
            | (refine wpList_run (.agg zer35.toArray) (Op.build 25 #[]) rfl rfl (by kernel_rfl) ?_) | (refine wpList_store_blk rfl _ _ _ rfl (w.heap.size + 1) (zer35) (by rfl) (by rfl) 25 zer35 HH5.out (info_hd35 _ _ _ _ rfl) rfl (hdL_one _ _ _ _) ?_; intro w19 hz19 hB19 hg19; clear hz19))
          refine bodyPost_ret (results_blk_tmp2 rfl _ _ (w.heap.size + 1) 25 (zer35) _ rfl hB19 Tryz.underlying25 rfl (info_hd35 _ _ _ _ rfl)) rfl ?_
          unfold R30Four
          rw [HBAD.out]
          exact ⟨rfl, HG5.out.fresh hg19 (fun i hi => by simp at hi; omega)⟩
      · have hbad : headBad (.text te1) B C D = some pO := by unfold headBad; rw [if_pos (by simp [isText, textT, ho])]
        have HBAD := Lib.hid hbad
        have ho : originB te1 = false := by simpa using ho
        rw [ho] at HO
        clear hsz ho hbad
        go_wp2_with (first
          | (go_at_call 23; refine (HO.out _).mono ?_; rintro e wz ⟨rfl, rfl⟩)
          | (refine wpList_run (.agg zer35.toArray) (Op.build 25 #[]) rfl rfl (by kernel_rfl) ?_) | (refine wpList_store_blk rfl _ _ _ rfl (w.heap.size + 1) (zer35) (by rfl) (by rfl) 25 zer35 HH4.out (info_hd35 _ _ _ _ rfl) rfl (hdL_one _ _ _ _) ?_; intro w19 hz19 hB19 hg19; clear hz19))
        refine bodyPost_ret (results_blk_tmp2 rfl _ _ (w.heap.size + 1) 25 (zer35) _ rfl hB19 Tryz.underlying25 rfl (info_hd35 _ _ _ _ rfl)) rfl ?_
        unfold R30Four
        rw [HBAD.out]
        exact ⟨rfl, HG4.out.fresh hg19 (fun i hi => by simp at hi; omega)⟩
    · have hbad : headBad A B C D = some pO := by unfold headBad; rw [if_pos (by simp [hA])]
      have HBAD := Lib.hid hbad
      have d4 : ((so1 : Int) != 4) = true := by rw [bne_iff_ne, HSO.out.1]; cases A <;> simp [isText] at hA <;> simp [headStep]
      clear hA hbad
      go_wp2_with (first | (refine wpList_run (.agg zer35.toArray) (Op.build 25 #[]) rfl rfl (by kernel_rfl) ?_) | (refine wpList_store_blk rfl _ _ _ rfl (w.heap.size + 1) (zer35) (by rfl) (by rfl) 25 zer35 HH4.out (info_hd35 _ _ _ _ rfl) rfl (hdL_one _ _ _ _) ?_; intro w19 hz19 hB19 hg19; clear hz19))
      refine bodyPost_ret (results_blk_tmp2 rfl _ _ (w.heap.size + 1) 25 (zer35) _ rfl hB19 Tryz.underlying25 rfl (info_hd35 _ _ _ _ rfl)) rfl ?_
      unfold R30Four
      rw [HBAD.out]
      exact ⟨rfl, HG4.out.fresh hg19 (fun i hi => by simp at hi; omega)⟩
  · refine ⟨by (repeat (first | exact Chg.refl w0 [] | with_reducible refine Chg.drewN ?_ _ | with_reducible refine Chg.drew ?_ | with_reducible refine Chg.alloc ?_ _ | with_reducible refine Chg.setCell ?_ _ _ (by simp) | with_reducible refine Chg.setCell ?_ _ _ (by simp; omega))), fun g e => ?_, fun g e => ?_, fun g e _ => ?_⟩
    · exact absurd (show (Option.none : Option Nat) = some g from e) (by simp)
    · exact absurd (show (Option.none : Option Nat) = some g from e) (by simp)
    · exact absurd (show (Option.none : Option Nat) = some g from e) (by simp)
end Go.Proofs.YtfdhgakalojahaaGreatDoor

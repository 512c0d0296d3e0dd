/- WALKS: the reference's layer 10: the value that steps make. LAWS: for reading a head out of its value. -/
import Derived.Test.YtfdhgakalojahaaGreatDoorM41
import Derived.Test.YtfdhgakalojahaaGreatDoorM36
import Derived.Test.YtfdhgakalojahaaGreatDoorM14
import Derived.Test.YtfdhgakalojahaaGreatDoorM24
import Derived.Test.YtfdhgakalojahaaGreatDoorM30
set_option linter.unusedSimpArgs false
set_option linter.unusedVariables false
set_option linter.unnecessarySimpa false
set_option linter.unusedSectionVars false
namespace Go.Proofs.YtfdhgakalojahaaGreatDoor
open Go Go.RowKit Tree

theorem results_blk_tmp2 {P : Program} {fn : Func} {p q r : Tmp} {ty : TypeId} (h : fn.results = #[.cell p ty, .tmp q, .tmp r]) (tmps : Array Value) (w : World) (g : Nat) (T : TypeId) (cs : List Value) (d : TypeDesc)
    (hp : tmps.getD p undef = .pointer (some ⟨g, 0, none⟩)) (hB : Blk w g cs T)
    (hu : P.underlying ty = some d) (hd : (match d with | .struct _ | .array _ _ => true | _ => false) = true) (hi : (P.info? ty).map (·.size) = some cs.length) :
    (results fn tmps).run P w = .ok (.tuple #[.agg cs.toArray, tmps.getD q undef, tmps.getD r undef]) w := by
  have hp' : tmps[p]?.getD undef = .pointer (some ⟨g, 0, none⟩) := by simpa using hp
  have hrow := run_loadVar_row (P := P) w g T ty cs.toArray (0, 0) d hB hu hd (by simpa using hi)
  simp [results, h, hp', asAddr, hrow]

def zV : List Value := [.int .i64 0, .bool false, .int .u64 0, .string ⟨#[]⟩, .slice none 0 0, .slice none 0 0]

/-- what ref10.Build tells -/
def RBuildPost (l : List StepI) (w : World) (e : Ending) (w' : World) : Prop :=
  (match (if l.length ≤ 65536 then buildT l else none) with
    | some t => ∃ (F : Nat → Prop) (cs : List Value), e = .returned (.tuple #[.agg cs.toArray, .int .i64 0, .int .i64 0]) ∧ ValAt w' F t cs ∧ (∀ b, F b → b < w'.heap.size) ∧ (szT t).within = true
    | none => ∃ (k a : Int), k ≠ 0 ∧ e = .returned (.tuple #[.agg zV.toArray, .int .i64 k, .int .i64 a])) ∧ Chg w w' []

set_option maxRecDepth 100000 in
set_option maxHeartbeats 8000000 in
theorem r10_Build (l : List StepI) (sl : Value) (xs : List Value) (w : World) (hR : RowC w sl 6 l.length xs) (hS : StepsR w l xs) (hb : ∀ s ∈ l, StepB s) (hl : l.length ≤ 4294967296) :
    Calls Tryz.prog 12 #[sl] w (RBuildPost l w) := by
  obtain ⟨a, c, rfl, hac, _⟩ := hR.form
  have HR := Lib.hid hR
  have HS := Lib.hid hS
  have HB := Lib.hid hb
  obtain ⟨w0, hw0⟩ : ∃ x, x = w.alloc (.cells #[.int .i64 0, .bool false, .int .u64 0, .string ⟨#[]⟩, .slice none 0 0, .slice none 0 0] 42) := ⟨_, rfl⟩
  have HP : Hid (Blk w0 w.heap.size zV 42) := by rw [hw0]; exact Lib.hid (Blk.new w _ _)
  have HG : Hid (Chg w w0 []) := by rw [hw0]; exact Lib.hid ((Chg.refl w []).alloc _)
  have hz0 : w0.heap.size = w.heap.size + 1 := by rw [hw0]; simp
  have HZ := Lib.hid hz0
  have HW := Lib.hid hw0
  clear hR hS hb hw0 hz0
  by_cases hmax : l.length ≤ 65536
  · go_enter Tryz.func12, Tryz.ntmps12
    go_wp2_with fail
    rw [← HW.out]
    go_loopw [5, 6] (fun v5 v6 wr => ∃ (i : Nat) (row : List Tr) (F : Nat → Prop), i ≤ l.length ∧ v6 = .int .i64 i ∧ runT [] (l.take i) = some row ∧ RowV wr F v5 row ∧ Chg w0 wr [] ∧ (∀ g, v5.ownBlock = some g → w0.heap.size ≤ g) ∧ ∀ b, F b → w0.heap.size ≤ b) (fun _ v6 _ => l.length - (intOf v6).toNat)
    case atStart => exact ⟨0, [], fun _ => False, by omega, rfl, by simp [runT], ⟨[], LstK.nil _ _ _, by simp [ValsAt], fun _ h => h.elim, fun g hg => by cases hg⟩, Chg.refl _ _, fun g hg => (by cases hg), fun _ h => h.elim⟩
    case round =>
      obtain ⟨wa, rfl⟩ : ∃ x, x = wr := ⟨_, rfl⟩
      obtain ⟨i, row, F, hi, rfl, hrun, hrow, hg, ho, hfr⟩ := hrel
      have HFr := Lib.hid hfr
      have hfa := runT_facts (row := []) (fun _ h => by cases h) hrun
      have hrl : row.length ≤ 65536 := by have := hfa.2; rw [List.length_take] at this; simp at this; omega
      have HGa := Lib.hid hg
      have HRun := Lib.hid hrun
      have HRow := Lib.hid hrow
      have HO := Lib.hid ho
      have HFit := Lib.hid hfa.1
      have hP := HP.out.kept hg (by simp)
      have HPa := Lib.hid hP
      obtain ⟨x1, x2, x10, x11, x12, x13, x14, x15⟩ := Blk.cells6 hP
      obtain ⟨xr, hxr, _, _, _⟩ := hrow
      obtain ⟨ra, rc, rfl, _⟩ := hxr.form
      have hcap := hxr.capLe.2
      clear hrun hg ho hfa hxr hP hfr
      by_cases hlt : i < l.length
      · obtain ⟨s, hs⟩ : ∃ s, l[i]? = some s := ⟨_, List.getElem?_eq_getElem hlt⟩
        have hsm : s ∈ l := List.mem_of_getElem? hs
        obtain ⟨sk, hsk, hsc⟩ := HS.out.get i s hs
        obtain ⟨b, o, rfl, hcell⟩ := HR.out.base (by omega) (by decide)
        have hcc : ∀ j v, (stepI s sk)[j]? = some v → wa.cell? ⟨b, o + i * 6 + j, none⟩ = some v := fun j v hv => by
          rw [Nat.add_assoc]
          exact (HG.out.trans HGa.out).keeps (hcell _ v (hsc j v hv))
        have c0 := hcc 0 _ rfl
        have c1 := hcc 1 _ rfl
        have c2 := hcc 2 _ rfl
        have c3 := hcc 3 _ rfl
        have c4 := hcc 4 _ rfl
        have c5 := hcc 5 _ rfl
        rw [Nat.add_zero] at c0
        have hka := hsk.kept (HG.out.trans HGa.out)
        by_cases hf : fitS s row = true
        · have hnx := runT_succ HRun.out hs
          rw [if_pos hf] at hnx
          have hf' := hf
          unfold fitS at hf'
          simp only [Bool.and_eq_true, decide_eq_true_eq] at hf'
          obtain ⟨⟨hok, hno⟩, hwi⟩ := hf'
          have HD : Hid (Calls Tryz.prog 40 #[.slice ra row.length rc, .agg #[.int .i64 s.sort, .bool s.flag, .int .u64 s.bits, .string s.text, .int .i64 s.count, sk]] wa (RDoOk F (doT row s) (.slice ra row.length rc) wa)) := Lib.hid ((r10_Do_ok row F _ s sk wa HRow.out hka (HB.out s hsm) HFit.out hrl hok hno).mono fun e w' h => by unfold RDoPost at h; rwa [if_pos hwi] at h)
          have HNX := Lib.hid hnx
          clear hnx hok hno hwi hf hs hsm hsk hsc hcell hcc hka
          go_wp2_with (first | (go_at_call 40; refine HD.out.mono ?_; rintro e w3 ⟨⟨rv3, F3, rfl, hR3, hO3, hF3⟩, hC3⟩; have HF3 := Lib.hid hF3; have HR3 := Lib.hid hR3; have HO3 := Lib.hid hO3; have HC3 := Lib.hid hC3; clear hR3 hO3 hC3 hF3))
          go_roundw
          case rel =>
            refine ⟨i + 1, doT row s, F3, by omega, by go_num, HNX.out, HR3.out, HGa.out.step HC3.out (fun k hk hlt => by have := HO.out k (by simpa using hk); omega), fun g hg => ?_, fun g hg => ?_⟩
            · rcases HO3.out g hg with h | h
              · exact HO.out g h
              · exact Nat.le_trans HGa.out.size h
            · exact (HF3.out g hg).elim (HFr.out g) (fun h => Nat.le_trans HGa.out.size h)
          case measure => simp [intOf]; omega
        · have hf0 : fitS s row = false := by simpa using hf
          have hnone := runT_none HRun.out hs hf0
          have hbt : (if l.length ≤ 65536 then buildT l else none) = none := by rw [if_pos hmax]; unfold buildT; rw [hnone]
          have HBT := Lib.hid hbt
          have HD : Hid (Calls Tryz.prog 40 #[.slice ra row.length rc, .agg #[.int .i64 s.sort, .bool s.flag, .int .u64 s.bits, .string s.text, .int .i64 s.count, sk]] wa (RDoNo wa)) := by
            by_cases hok : okS s = true ∧ nOf s ≤ row.length
            · have hwi : ¬ (szT (madeOf s row)).within = true := fun h => hf (by unfold fitS; simp only [Bool.and_eq_true, decide_eq_true_eq]; exact ⟨⟨hok.1, hok.2⟩, h⟩)
              exact Lib.hid ((r10_Do_ok row F _ s sk wa HRow.out hka (HB.out s hsm) HFit.out hrl hok.1 hok.2).mono fun e w' h => by unfold RDoPost at h; rwa [if_neg hwi] at h)
            · refine Lib.hid (r10_Do_no row _ s sk wa ⟨_, _, rfl⟩ hka (HB.out s hsm) (by omega) ?_)
              by_cases h : okS s = true
              · exact .inr (by have : ¬ nOf s ≤ row.length := fun g => hok ⟨h, g⟩; omega)
              · exact .inl (by simpa using h)
          clear hnone hbt hf hf0 hs hsm hsk hsc hcell hcc hka
          go_wp2_with (first
            | (go_at_call 40; refine HD.out.mono ?_; rintro e w3 ⟨⟨v3, k3, hk3, rfl⟩, hC3⟩; have HK3 := Lib.hid hk3; have hk0 : (k3 == 0) = false := (by rw [beq_eq_false_iff_ne]; exact hk3); have HP3 := Lib.hid (HPa.out.kept hC3 (by simp)); have HC3 := Lib.hid hC3; clear hC3 hk3)
            | (refine wpList_store_blk rfl _ _ _ rfl w.heap.size zV (by rfl) (by rfl) _ _ HP3.out info_val rfl (by intro u hu; simp only [zV, List.mem_cons, List.not_mem_nil, or_false] at hu; rcases hu with rfl | rfl | rfl | rfl | rfl | rfl <;> rfl) ?_; intro w9 hz9 hB9 hC9; clear hz9))
          refine bodyPost_ret (results_blk_tmp2 rfl _ _ w.heap.size 42 zV _ rfl hB9 Tryz.underlying42 rfl info_val) rfl ?_
          unfold RBuildPost
          rw [HBT.out]
          exact ⟨⟨_, _, HK3.out, rfl⟩, ((HG.out.trans HGa.out).trans HC3.out).fresh hC9 (fun k hk => by simp at hk; omega)⟩
      · obtain rfl : i = l.length := by omega
        have hrun := HRun.out
        rw [List.take_of_length_le (Nat.le_refl _)] at hrun
        by_cases h1 : row.length = 1
        · obtain ⟨t, rfl⟩ : ∃ t, row = [t] := by
            match row, h1 with
            | [t], _ => exact ⟨t, rfl⟩
          have hbt : (if l.length ≤ 65536 then buildT l else none) = some t := by rw [if_pos hmax]; unfold buildT; rw [hrun]
          have HBT := Lib.hid hbt
          obtain ⟨xr, hxr, hxv, hxF, hxo⟩ := HRow.out
          obtain ⟨a', c', e', ha'⟩ := hxr.form
          injection e' with e1 _ e3
          subst e1; subst e3
          obtain ⟨g, rfl⟩ := ha' (by simp)
          simp only [ValsAt] at hxv
          obtain ⟨cs, r, rfl, hv1, rfl⟩ := hxv
          have hvv := hv1.uni
          obtain ⟨la, lc, ka, kc, xs', rfl, _⟩ := hvv
          obtain ⟨so, hso⟩ : ∃ x, x = ((headStep t).sort : Int) := ⟨_, rfl⟩
          obtain ⟨fl, hfl⟩ : ∃ x, x = (headStep t).flag := ⟨_, rfl⟩
          obtain ⟨bi, hbi⟩ : ∃ x, x = ((headStep t).bits : Int) := ⟨_, rfl⟩
          obtain ⟨tx, htx⟩ : ∃ x, x = (headStep t).text := ⟨_, rfl⟩
          obtain ⟨n1, hn1⟩ : ∃ x, x = (itemsT t).length := ⟨_, rfl⟩
          obtain ⟨n2, hn2⟩ : ∃ x, x = (headStep t).keys.length := ⟨_, rfl⟩
          rw [← hso, ← hfl, ← hbi, ← htx, ← hn1, ← hn2] at hxr hv1
          have hcc : ∀ j v, (vC so fl bi tx (.slice la n1 lc) (.slice ka n2 kc))[j]? = some v → wa.cell? ⟨g, j, none⟩ = some v := fun j v hv => hxr.cell rfl j v (by rw [List.append_nil]; exact hv)
          have c0 := hcc 0 _ rfl
          have c1 := hcc 1 _ rfl
          have c2 := hcc 2 _ rfl
          have c3 := hcc 3 _ rfl
          have c4 := hcc 4 _ rfl
          have c5 := hcc 5 _ rfl
          have HV1 := Lib.hid hv1
          have HXF := Lib.hid hxF
          have HFT : Hid ((szT t).within = true) := HFit.out t (by simp)
          simp only [List.length_cons, List.length_nil] at hcap hrl ⊢
          clear hcc hxr hv1 hxF hxo ha' hso hfl hbi htx hn1 hn2 h1 hrun hbt
          go_wp2_with (first
            | (refine wpList_store_blk rfl _ _ _ rfl w.heap.size (vC so fl bi tx (.slice la n1 lc) (.slice ka n2 kc)) (by rfl) (by rfl) _ _ HPa.out info_val rfl (by intro u hu; simp only [vC, List.mem_cons, List.not_mem_nil, or_false] at hu; rcases hu with rfl | rfl | rfl | rfl | rfl | rfl <;> rfl) ?_; intro w9 hz9 hB9 hC9; clear hz9))
          refine bodyPost_ret (results_blk_tmp2 rfl _ _ w.heap.size 42 (vC so fl bi tx (.slice la n1 lc) (.slice ka n2 kc)) _ rfl hB9 Tryz.underlying42 rfl info_val) rfl ?_
          unfold RBuildPost
          rw [HBT.out]
          have hFw : ∀ b, F b → b ≠ w.heap.size := fun b hb => by
            have := HFr.out b hb
            have := HZ.out
            omega
          exact ⟨⟨F, _, rfl, ValAt.kept (hC9.keepsF HXF.out (fun b hb h => hFw b h (by simpa using hb))) (fun _ h => h) _ _ HV1.out, fun b hb => Nat.lt_of_lt_of_le (HXF.out b hb) hC9.size, HFT.out⟩, (HG.out.trans HGa.out).fresh hC9 (fun k hk => by simp at hk; omega)⟩
        · have hbt : (if l.length ≤ 65536 then buildT l else none) = none := by
            rw [if_pos hmax]; unfold buildT; rw [hrun]
            match row, h1 with
            | [], _ => rfl
            | [t], h => exact absurd rfl h
            | _ :: _ :: _, _ => rfl
          have HBT := Lib.hid hbt
          have h1' : ((row.length : Int) == 1) = false := by rw [beq_eq_false_iff_ne]; omega
          clear hbt hrun h1
          go_wp2_with (first
            | (refine wpList_store_blk rfl _ _ _ rfl w.heap.size zV (by rfl) (by rfl) _ _ HPa.out info_val rfl (by intro u hu; simp only [zV, List.mem_cons, List.not_mem_nil, or_false] at hu; rcases hu with rfl | rfl | rfl | rfl | rfl | rfl <;> rfl) ?_; intro w9 hz9 hB9 hC9; clear hz9))
          refine bodyPost_ret (results_blk_tmp2 rfl _ _ w.heap.size 42 zV _ rfl hB9 Tryz.underlying42 rfl info_val) rfl ?_
          unfold RBuildPost
          rw [HBT.out]
          exact ⟨⟨_, _, by decide, rfl⟩, (HG.out.trans HGa.out).fresh hC9 (fun k hk => by simp at hk; omega)⟩
  · have hbt : (if l.length ≤ 65536 then buildT l else none) = none := if_neg hmax
    have HBT := Lib.hid hbt
    have hgt : (65536 : Int) < (l.length : Int) := by omega
    obtain ⟨x1, x2, x10, x11, x12, x13, x14, x15⟩ := Blk.cells6 HP.out
    clear hbt hmax
    go_enter Tryz.func12, Tryz.ntmps12
    go_upto_region 1 with (fail)
    rw [← HW.out]
    go_wp2_with (first
      | (refine wpList_store_blk rfl _ _ _ rfl w.heap.size zV (by rfl) (by rfl) _ _ HP.out info_val rfl (by intro u hu; simp only [zV, List.mem_cons, List.not_mem_nil, or_false] at hu; rcases hu with rfl | rfl | rfl | rfl | rfl | rfl <;> rfl) ?_; intro w9 hz9 hB9 hC9; clear hz9))
    refine bodyPost_ret (results_blk_tmp2 rfl _ _ w.heap.size 42 zV _ rfl hB9 Tryz.underlying42 rfl info_val) rfl ?_
    unfold RBuildPost
    rw [HBT.out]
    exact ⟨⟨_, _, by decide, rfl⟩, HG.out.fresh hC9 (fun k hk => by simp at hk; omega)⟩
end Go.Proofs.YtfdhgakalojahaaGreatDoor

namespace Go.Proofs.YtfdhgakalojahaaGreatDoor
open Go Go.RowKit Tree

theorem hexNum_hexD {n : Nat} (h : n < 16) : hexNum (hexD n) = n := hexNum_of h rfl

theorem hexOK_hexS (s : ByteArray) : hexOK (hexS s) = true := by
  unfold hexOK
  rw [Bool.and_eq_true]
  refine ⟨decide_eq_true (by rw [hexS_size]; omega), List.all_eq_true.2 fun i hi => decide_eq_true ?_⟩
  rw [List.mem_range, hexS_size] at hi
  rw [hexS_byte s i hi, hexNum_hexD (nib_lt s i)]
  omega

theorem unhexB_hexS (s : ByteArray) (j : Nat) (hj : j < s.size) : unhexB (hexS s) j = Utf.byteAt s j := by
  unfold unhexB
  rw [hexS_byte s _ (by omega), hexS_byte s _ (by omega), hexNum_hexD (nib_lt s _), hexNum_hexD (nib_lt s _)]
  unfold nib
  rw [if_pos (by omega), if_neg (by omega), show 2 * j / 2 = j from by omega, show (2 * j + 1) / 2 = j from by omega]
  omega

theorem unhexV_dg (rb : List UInt8) (hr : rb.length = 32) : unhexV (hexS (dgB rb)) 32 = rb.map byV := by
  apply List.ext_getElem?
  intro i
  by_cases hi : i < 32
  · have hi' : i < rb.length := by omega
    unfold unhexV
    rw [List.getElem?_map, List.getElem?_range hi, List.getElem?_map, List.getElem?_eq_getElem hi']
    simp only [Option.map_some]
    rw [unhexB_hexS _ _ (by rw [dgB_size]; omega), dgB_byte rb i hi']
    rfl
  · rw [List.getElem?_eq_none (by rw [unhexV_length]; omega), List.getElem?_eq_none (by rw [List.length_map]; omega)]

theorem digOK_dg (rb : List UInt8) (hr : rb.length = 32) : digOK (hexS (dgB rb)) = true := by
  unfold digOK
  rw [hexOK_hexS, hexS_size, dgB_size, hr]; rfl

theorem keys4_ok : KeysOK keys4 := by
  refine ⟨keys4_right, keys4_small, ?_, by decide⟩
  have h01 : decide (Utf.cmpR kO kR < 0) = true := by kernel_rfl
  have h02 : decide (Utf.cmpR kO kS < 0) = true := by kernel_rfl
  have h03 : decide (Utf.cmpR kO kT < 0) = true := by kernel_rfl
  have h12 : decide (Utf.cmpR kR kS < 0) = true := by kernel_rfl
  have h13 : decide (Utf.cmpR kR kT < 0) = true := by kernel_rfl
  have h23 : decide (Utf.cmpR kS kT < 0) = true := by kernel_rfl
  simp only [decide_eq_true_eq] at h01 h02 h03 h12 h13 h23
  refine .cons ?_ (.cons ?_ (.cons ?_ (.cons ?_ .nil)))
  all_goals
    intro a ha
    simp only [List.mem_cons, List.not_mem_nil, or_false] at ha
  · rcases ha with rfl | rfl | rfl <;> assumption
  · rcases ha with rfl | rfl <;> assumption
  · rcases ha with rfl; assumption

/-- a key of the four is found -/
theorem find_head (F : Nat → Prop) (a b c d : Tr) (v : Value) (j : Nat) (key : ByteArray) (u : Tr) (hk : keys4[j]? = some key) (hu : [a, b, c, d][j]? = some u) (w : World) (ht : ItemAt w F (.obj keys4 [a, b, c, d]) v) (hF : ∀ k, F k → k < w.heap.size) :
    Calls Tryz.prog 26 #[.agg #[v], .string key] w fun e w' => ∃ x, e = .returned (.tuple #[.agg #[x], .bool true]) ∧ Chg w w' [] ∧ ItemAt w' F u x := by
  have hm : key ∈ keys4 := List.mem_of_getElem? hk
  refine (ref_Find F (.obj keys4 [a, b, c, d]) v key w ht hF keys4_ok (.inr rfl) (by simp [itemsT]) (keys4_right key hm) (keys4_small key hm)).mono ?_
  rintro e w' ⟨x, ok, rfl, hg, h⟩
  rcases h with ⟨rfl, i, u', h1, h2, h3⟩ | ⟨_, _, h⟩
  · have hi : i < keys4.length := (List.getElem?_eq_some_iff.1 h1).1
    have hij : i = j := (List.getElem?_inj hi keys4_nodup).1 (h1.trans hk.symm)
    subst hij
    simp only [itemsT] at h2
    rw [hu] at h2
    injection h2 with h2
    subst h2
    exact ⟨x, rfl, hg, h3⟩
  · exact absurd hm h

/-- cells set in a row -/
def setL : List Value → Nat → List Value → List Value
  | cs, _, [] => cs
  | cs, o, v :: r => setL (cs.set o v) (o + 1) r

theorem setL_length : ∀ (vs cs : List Value) (o : Nat), (setL cs o vs).length = cs.length
  | [], _, _ => rfl
  | v :: r, cs, o => by simp only [setL]; rw [setL_length r]; simp

theorem setL_get : ∀ (vs cs : List Value) (o i : Nat), (setL cs o vs)[i]? = if i < cs.length then (if o ≤ i ∧ i < o + vs.length then vs[i - o]? else cs[i]?) else none
  | [], cs, o, i => by
    simp only [setL, List.length_nil]
    by_cases hl : i < cs.length
    · rw [if_pos hl, if_neg (by omega)]
    · rw [if_neg hl]; exact List.getElem?_eq_none (by omega)
  | v :: r, cs, o, i => by
    simp only [setL]
    rw [setL_get r, List.length_set]
    by_cases hl : i < cs.length
    · rw [if_pos hl, if_pos hl]
      by_cases h1 : o + 1 ≤ i ∧ i < o + 1 + r.length
      · rw [if_pos h1, if_pos (by simp; omega), show i - o = (i - (o + 1)) + 1 from by omega]; rfl
      · rw [if_neg h1, List.getElem?_set]
        by_cases h2 : o = i
        · subst h2
          rw [if_pos rfl, if_pos hl, if_pos (by simp), Nat.sub_self]; rfl
        · rw [if_neg h2, if_neg (by simp; omega)]
    · rw [if_neg hl, if_neg hl]

theorem Blk.setCells : ∀ (vs : List Value) {w : World} {b : Nat} {cs : List Value} {T : TypeId} (_ : Blk w b cs T) (o : Nat), Blk (w.setCells b o vs) b (setL cs o vs) T
  | [], _, _, _, _, h, _ => h
  | v :: r, _, _, _, _, h, o => by
    rw [World.setCells]
    exact Blk.setCells r (h.set o v) (o + 1)

theorem Chg.setCells : ∀ (vs : List Value) (w : World) (b o : Nat), Chg w (w.setCells b o vs) [b]
  | [], w, _, _ => Chg.none (Chg.refl _ _) _
  | v :: r, w, b, o => by
    rw [World.setCells]
    exact ((Chg.refl w [b]).setCell ⟨b, o, Option.none⟩ v (by simp)).trans (Chg.setCells r _ b (o + 1))

def z32 : List UInt8 := List.replicate 32 0

theorem hdL_set0 (o o' : ByteArray) (n : Int) (rb : List UInt8) (t : Int) : (hdL o n rb t).set 0 (.string o') = hdL o' n rb t := rfl
theorem hdL_set1 (o : ByteArray) (n n' : Int) (rb : List UInt8) (t : Int) : (hdL o n rb t).set 1 (.int .i64 n') = hdL o n' rb t := rfl
theorem hdL_set34 (o : ByteArray) (n : Int) (rb : List UInt8) (hr : rb.length = 32) (t t' : Int) : (hdL o n rb t).set 34 (.int .i64 t') = hdL o n rb t' := by
  unfold hdL
  rw [List.set_append_right _ _ (by simp; omega)]
  simp [hr]
theorem hdL_setD (o : ByteArray) (n : Int) (rb rb' : List UInt8) (hr : rb.length = 32) (hr' : rb'.length = 32) (t : Int) : setL (hdL o n rb t) 2 (rb'.map byV) = hdL o n rb' t := by
  apply List.ext_getElem?
  intro i
  rw [setL_get, hdL_length, hr, List.length_map, hr']
  by_cases hl : i < 35
  · rw [if_pos hl]
    by_cases h1 : 2 ≤ i ∧ i < 34
    · rw [if_pos h1]
      have hi : i - 2 < (rb'.map byV).length := by rw [List.length_map]; omega
      have h2 := hdL_2 o n rb' t (i - 2) _ (List.getElem?_eq_getElem hi)
      rw [show 2 + (i - 2) = i from by omega] at h2
      rw [h2, List.getElem?_eq_getElem hi]
    · rw [if_neg h1]
      have : i = 0 ∨ i = 1 ∨ i = 34 := by omega
      rcases this with rfl | rfl | rfl
      · rfl
      · rfl
      · rw [hdL_34 _ _ _ _ hr, hdL_34 _ _ _ _ hr']
  · rw [if_neg hl, List.getElem?_eq_none (by rw [hdL_length]; omega)]

theorem run_neq_bytes {P : Program} (w : World) (t e : TypeId) (n : Nat) (ht : P.underlying t = some (.array n e)) (he : P.underlying e = some (.int .u8)) (hsz : ∀ w, (sizeOf e).run P w = .ok 1 w)
    (xs ys : List UInt8) (hx : xs.length = n) (hy : ys.length = n) :
    (binOp .neq t (.agg (xs.map byV).toArray) (.agg (ys.map byV).toArray)).run P w = .ok (.bool (!(xs == ys))) w := by
  rw [run_neq_struct, run_equalIn_bytes w 9998 t e n ht he hsz xs ys hx hy]
  rfl

/-- blocks that are known whole -/
def Bs (w : World) (L : List (Nat × List Value × TypeId)) : Prop := ∀ p ∈ L, Blk w p.1 p.2.1 p.2.2

theorem Bs.kept {w w' : World} {L : List (Nat × List Value × TypeId)} (h : Bs w L) (hg : Chg w w' []) : Bs w' L := fun p hp => (h p hp).kept hg (by simp)
theorem Bs.new {w : World} {L : List (Nat × List Value × TypeId)} (h : Bs w L) (cs : List Value) (T : TypeId) : Bs (w.alloc (.cells cs.toArray T)) ((w.heap.size, cs, T) :: L) := fun p hp => by
  rcases List.mem_cons.1 hp with rfl | hp
  · exact Blk.new w cs T
  · exact (h p hp).alloc _
end Go.Proofs.YtfdhgakalojahaaGreatDoor

/- WALKS: the program's layer 30: a value that is no head. -/
import Derived.Test.YtfdhgakalojahaaGreatDoorM43
import Derived.Test.YtfdhgakalojahaaGreatDoorM38
set_option linter.unusedSimpArgs false
set_option linter.unusedVariables false
set_option linter.unnecessarySimpa false
set_option linter.unusedSectionVars false
namespace Go.Proofs.YtfdhgakalojahaaGreatDoor
open Go Go.RowKit Tree

def trailV (p : ByteArray) : Value := .iface 107 (.agg #[.int .i64 300, .string p])

theorem wit_trail (p : ByteArray) (w : World) : Calls Tryz.prog 28 #[.string p] w fun e w' => e = .returned (trailV p) ∧ Chg w w' [] := by
  go_enter Tryz.func28, Tryz.ntmps28
  go_wp2
  go_ret
  exact ⟨rfl, by (repeat (first | exact Chg.refl _ _ | with_reducible refine Chg.drewN ?_ _ | with_reducible refine Chg.drew ?_ | with_reducible refine Chg.alloc ?_ _ | with_reducible refine Chg.setCell ?_ _ _ (by simp) | with_reducible refine Chg.setCell ?_ _ _ (by simp; omega)))⟩

/-- no head, and where it is none -/
def ReadNo (p : ByteArray) (w : World) (e : Ending) (w' : World) : Prop := e = .returned (.tuple #[.agg zer35.toArray, trailV p]) ∧ Chg w w' []

theorem info_ref1 : (Tryz.prog.info? 74).map (·.size) = some 1 := by kernel_rfl

set_option maxRecDepth 200000 in
set_option maxHeartbeats 32000000 in
theorem wit_Read_none (F : Nat → Prop) (tb : Nat) (t : Tr) (w : World) (hl : Laid w) (hT : TreeAt w F tb t) (hF : ∀ k, F k → k < w.heap.size) (hok : KeysOK (keysT t)) (hln : (keysT t).length = 0 ∨ (keysT t).length = (itemsT t).length) (hl2 : (itemsT t).length ≤ 2147483648)
    (hno : ¬ (kO ∈ keysT t ∧ kR ∈ keysT t ∧ kS ∈ keysT t ∧ kT ∈ keysT t ∧ (itemsT t).length = 4)) :
    Calls Tryz.prog 9 #[.pointer (some ⟨tb, 0, none⟩)] w (ReadNo ⟨#[]⟩ w) := by
  have HFD : Hid (∀ (key : ByteArray) (v : Value) (wx : World), key ∈ keys4 → ItemAt wx F t v → (∀ k, F k → k < wx.heap.size) → Calls Tryz.prog 26 #[.agg #[v], .string key] wx fun e w' => ∃ x ok, e = .returned (.tuple #[.agg #[x], .bool ok]) ∧ Chg wx w' [] ∧ (ok = true → key ∈ keysT t) ∧ x.oneCell' = true) := Lib.hid fun key v wx hk hi hf =>
    (ref_Find F t v key wx hi hf hok hln hl2 (keys4_ok.right key hk) (keys4_ok.small key hk)).mono fun e w' ⟨x, ok, h1, h2, h3⟩ => ⟨x, ok, h1, h2, by
      refine ⟨fun h => ?_, ?_⟩
      · rcases h3 with ⟨_, i, u, h4, _⟩ | ⟨h4, _⟩
        · exact List.mem_of_getElem? h4
        · rw [h] at h4; cases h4
      · rcases h3 with ⟨_, i, u, _, _, h4⟩ | ⟨_, h4, _⟩
        · exact h4.oneCell
        · rw [h4]; rfl⟩
  have HNO := Lib.hid hno
  obtain ⟨nl, hnl⟩ : ∃ n, n = (itemsT t).length := ⟨_, rfl⟩
  have HLEN : Hid (∀ (v : Value) (wx : World), ItemAt wx F t v → (∀ k, F k → k < wx.heap.size) → Calls Tryz.prog 27 #[.agg #[v]] wx fun e w' => e = .returned (.int .i64 nl) ∧ Chg wx w' []) := Lib.hid fun v wx hi hf => by rw [hnl]; exact ref_Len F t v wx hi hf
  have HNL := Lib.hid hnl
  clear hok hln hl2 hno hnl
  obtain ⟨v, hc0, hit0, htb⟩ := hT
  obtain ⟨ti, tx, rfl⟩ := hit0.iface
  obtain ⟨w0, hw0⟩ : ∃ x, x = w.alloc (.cells zer35.toArray 25) := ⟨_, rfl⟩
  have HR0 : Hid (RW w w0 F tb (.iface ti tx) t [(w.heap.size, zer35, 25)]) := by
    rw [hw0]
    exact Lib.hid (RW.new (L := []) ⟨Chg.refl _ _, hit0, hF, hl, (fun p hp => by cases hp)⟩ zer35 _)
  have HW := Lib.hid hw0
  have hc : w0.cell? ⟨tb, 0, none⟩ = some (.iface ti tx) := HR0.out.chg.keeps hc0
  have htb0 : tb < w0.heap.size := Nat.lt_of_lt_of_le htb HR0.out.chg.size
  clear hw0 hc0 hit0 htb hF hl
  go_enter Tryz.func9, Tryz.ntmps9
  go_wp2_with fail
  change Calls _ _ _ (w.alloc (.cells zer35.toArray 25)) _
  rw [← HW.out]
  refine (tree_Root F tb (.iface ti tx) w0 hc ⟨ti, tx, rfl⟩ htb0).mono ?_
  rintro e w1 ⟨rfl, hg1⟩
  have HR1 := Lib.hid ((HR0.out.kept hg1).new [.iface ti tx] 74)
  obtain ⟨B4, hB4⟩ : ∃ B, B = w1.heap.size := ⟨_, rfl⟩
  rw [← hB4] at HR1
  clear hg1 HR0 hc htb0 HW
  obtain ⟨w2, hw2⟩ : ∃ x, x = w1.alloc (.cells #[.iface ti tx] 74) := ⟨_, rfl⟩
  have HW2 := Lib.hid hw2
  have HR2 : Hid (RW w w2 F tb (.iface ti tx) t [(B4, [.iface ti tx], 74), (w.heap.size, zer35, 25)]) := by rw [hw2]; exact HR1
  have q4 : w2.cell? ⟨B4, 0, none⟩ = some (.iface ti tx) := (HR2.out.bs _ (List.Mem.head _)).cell 0
  clear hw2 HR1
  go_upto_region 4 with (fail)
  rw [← HW2.out, ← hB4]
  clear HW2 hB4 w1
  go_upto_region 5 with (first
    | (go_at_call 26; refine (HFD.out kO _ _ (by simp [keys4]) HR2.out.item HR2.out.lt).mono ?_; rintro e wx ⟨x0, o0, rfl, hgx, hm0, hx0⟩; have HRX := Lib.hid (HR2.out.kept hgx); have HM0 := Lib.hid hm0; have HX0 := Lib.hid hx0; clear hgx q4 hm0 hx0)
    | (refine wpList_store_blk rfl _ _ _ rfl wx.heap.size [x0] (by rfl) (by rfl) 74 [.nilIface] (Blk.new wx _ _) info_ref1 rfl (fun u hu => by rw [List.mem_singleton.1 hu]; exact HX0.out) ?_; intro wy hzy hBy hgy; have HR3' := Lib.hid (HRX.out.newSet hBy hgy); clear hBy hgy hzy))
  obtain ⟨B5, hB5⟩ : ∃ B, B = wx.heap.size := ⟨_, rfl⟩
  obtain ⟨w3, hw⟩ : ∃ y, y = wy := ⟨_, rfl⟩
  have HR3 : Hid (RW w w3 F tb (.iface ti tx) t [(B5, [x0], 74), (B4, [.iface ti tx], 74), (w.heap.size, zer35, 25)]) := by rw [hw, hB5]; exact HR3'
  have q4 : w3.cell? ⟨B4, 0, none⟩ = some (.iface ti tx) := (HR3.out.bs _ (List.Mem.tail _ (List.Mem.head _))).cell 0
  rw [← hw, ← hB5]
  clear hw hB5 HRX HR2 HR3'
  clear wx wy
  go_upto_region 6 with (first
    | (go_at_call 26; refine (HFD.out kR _ _ (by simp [keys4]) HR3.out.item HR3.out.lt).mono ?_; rintro e wx ⟨x1, o1, rfl, hgx, hm1, hx1⟩; have HRX := Lib.hid (HR3.out.kept hgx); have HM1 := Lib.hid hm1; have HX1 := Lib.hid hx1; clear hgx q4 hm1 hx1)
    | (refine wpList_store_blk rfl _ _ _ rfl wx.heap.size [x1] (by rfl) (by rfl) 74 [.nilIface] (Blk.new wx _ _) info_ref1 rfl (fun u hu => by rw [List.mem_singleton.1 hu]; exact HX1.out) ?_; intro wy hzy hBy hgy; have HR4' := Lib.hid (HRX.out.newSet hBy hgy); clear hBy hgy hzy))
  obtain ⟨B7, hB7⟩ : ∃ B, B = wx.heap.size := ⟨_, rfl⟩
  obtain ⟨w4, hw⟩ : ∃ y, y = wy := ⟨_, rfl⟩
  have HR4 : Hid (RW w w4 F tb (.iface ti tx) t [(B7, [x1], 74), (B5, [x0], 74), (B4, [.iface ti tx], 74), (w.heap.size, zer35, 25)]) := by rw [hw, hB7]; exact HR4'
  have q4 : w4.cell? ⟨B4, 0, none⟩ = some (.iface ti tx) := (HR4.out.bs _ (List.Mem.tail _ (List.Mem.tail _ (List.Mem.head _)))).cell 0
  rw [← hw, ← hB7]
  clear hw hB7 HRX HR3 HR4'
  clear wx wy
  go_upto_region 7 with (first
    | (go_at_call 26; refine (HFD.out kS _ _ (by simp [keys4]) HR4.out.item HR4.out.lt).mono ?_; rintro e wx ⟨x2, o2, rfl, hgx, hm2, hx2⟩; have HRX := Lib.hid (HR4.out.kept hgx); have HM2 := Lib.hid hm2; have HX2 := Lib.hid hx2; clear hgx q4 hm2 hx2)
    | (refine wpList_store_blk rfl _ _ _ rfl wx.heap.size [x2] (by rfl) (by rfl) 74 [.nilIface] (Blk.new wx _ _) info_ref1 rfl (fun u hu => by rw [List.mem_singleton.1 hu]; exact HX2.out) ?_; intro wy hzy hBy hgy; have HR5' := Lib.hid (HRX.out.newSet hBy hgy); clear hBy hgy hzy))
  obtain ⟨B9, hB9⟩ : ∃ B, B = wx.heap.size := ⟨_, rfl⟩
  obtain ⟨w5, hw⟩ : ∃ y, y = wy := ⟨_, rfl⟩
  have HR5 : Hid (RW w w5 F tb (.iface ti tx) t [(B9, [x2], 74), (B7, [x1], 74), (B5, [x0], 74), (B4, [.iface ti tx], 74), (w.heap.size, zer35, 25)]) := by rw [hw, hB9]; exact HR5'
  have q4 : w5.cell? ⟨B4, 0, none⟩ = some (.iface ti tx) := (HR5.out.bs _ (List.Mem.tail _ (List.Mem.tail _ (List.Mem.tail _ (List.Mem.head _))))).cell 0
  rw [← hw, ← hB9]
  clear hw hB9 HRX HR4 HR5'
  clear wx wy
  go_upto_region 8 with (first
    | (go_at_call 26; refine (HFD.out kT _ _ (by simp [keys4]) HR5.out.item HR5.out.lt).mono ?_; rintro e wx ⟨x3, o3, rfl, hgx, hm3, hx3⟩; have HRX := Lib.hid (HR5.out.kept hgx); have HM3 := Lib.hid hm3; have HX3 := Lib.hid hx3; clear hgx q4 hm3 hx3)
    | (refine wpList_store_blk rfl _ _ _ rfl wx.heap.size [x3] (by rfl) (by rfl) 74 [.nilIface] (Blk.new wx _ _) info_ref1 rfl (fun u hu => by rw [List.mem_singleton.1 hu]; exact HX3.out) ?_; intro wy hzy hBy hgy; have HR6' := Lib.hid (HRX.out.newSet hBy hgy); clear hBy hgy hzy))
  obtain ⟨B11, hB11⟩ : ∃ B, B = wx.heap.size := ⟨_, rfl⟩
  obtain ⟨w6, hw⟩ : ∃ y, y = wy := ⟨_, rfl⟩
  have HR6 : Hid (RW w w6 F tb (.iface ti tx) t [(B11, [x3], 74), (B9, [x2], 74), (B7, [x1], 74), (B5, [x0], 74), (B4, [.iface ti tx], 74), (w.heap.size, zer35, 25)]) := by rw [hw, hB11]; exact HR6'
  have q4 : w6.cell? ⟨B4, 0, none⟩ = some (.iface ti tx) := (HR6.out.bs _ (List.Mem.tail _ (List.Mem.tail _ (List.Mem.tail _ (List.Mem.tail _ (List.Mem.head _)))))).cell 0
  rw [← hw, ← hB11]
  clear hw hB11 HRX HR5 HR6'
  clear wx wy
  cases o0 with
  | false =>
    go_wp2_with (first
      | (go_at_call 27; refine (HLEN.out _ _ HR6.out.item HR6.out.lt).mono ?_; rintro e w7 ⟨rfl, hg7⟩; have HR7 := Lib.hid (HR6.out.kept hg7); clear hg7)
      | (go_at_call 28; refine (wit_trail _ _).mono ?_; rintro e w8 ⟨rfl, hg8⟩; have HR8 := Lib.hid (HR6.out.kept hg8); clear hg8)
      | (refine wpList_store_blk rfl _ _ _ rfl w.heap.size zer35 (by rfl) (by rfl) 25 zer35 (HR8.out.bs _ (List.Mem.tail _ (List.Mem.tail _ (List.Mem.tail _ (List.Mem.tail _ (List.Mem.tail _ (List.Mem.head _))))))) (info_hd35 _ _ _ _ rfl) rfl (hdL_one _ _ _ _) ?_; intro w19 hz19 hB19 hg19; clear hz19))
    refine bodyPost_ret (results_blk_tmp rfl _ _ w.heap.size 25 zer35 _ rfl hB19 Tryz.underlying25 rfl (info_hd35 _ _ _ _ rfl)) rfl ⟨rfl, HR8.out.chg.fresh hg19 (by simp)⟩
  | true =>
    cases o1 with
    | false =>
      go_wp2_with (first
        | (go_at_call 27; refine (HLEN.out _ _ HR6.out.item HR6.out.lt).mono ?_; rintro e w7 ⟨rfl, hg7⟩; have HR7 := Lib.hid (HR6.out.kept hg7); clear hg7)
        | (go_at_call 28; refine (wit_trail _ _).mono ?_; rintro e w8 ⟨rfl, hg8⟩; have HR8 := Lib.hid (HR6.out.kept hg8); clear hg8)
        | (refine wpList_store_blk rfl _ _ _ rfl w.heap.size zer35 (by rfl) (by rfl) 25 zer35 (HR8.out.bs _ (List.Mem.tail _ (List.Mem.tail _ (List.Mem.tail _ (List.Mem.tail _ (List.Mem.tail _ (List.Mem.head _))))))) (info_hd35 _ _ _ _ rfl) rfl (hdL_one _ _ _ _) ?_; intro w19 hz19 hB19 hg19; clear hz19))
      refine bodyPost_ret (results_blk_tmp rfl _ _ w.heap.size 25 zer35 _ rfl hB19 Tryz.underlying25 rfl (info_hd35 _ _ _ _ rfl)) rfl ⟨rfl, HR8.out.chg.fresh hg19 (by simp)⟩
    | true =>
      cases o2 with
      | false =>
        go_wp2_with (first
          | (go_at_call 27; refine (HLEN.out _ _ HR6.out.item HR6.out.lt).mono ?_; rintro e w7 ⟨rfl, hg7⟩; have HR7 := Lib.hid (HR6.out.kept hg7); clear hg7)
          | (go_at_call 28; refine (wit_trail _ _).mono ?_; rintro e w8 ⟨rfl, hg8⟩; have HR8 := Lib.hid (HR6.out.kept hg8); clear hg8)
          | (refine wpList_store_blk rfl _ _ _ rfl w.heap.size zer35 (by rfl) (by rfl) 25 zer35 (HR8.out.bs _ (List.Mem.tail _ (List.Mem.tail _ (List.Mem.tail _ (List.Mem.tail _ (List.Mem.tail _ (List.Mem.head _))))))) (info_hd35 _ _ _ _ rfl) rfl (hdL_one _ _ _ _) ?_; intro w19 hz19 hB19 hg19; clear hz19))
        refine bodyPost_ret (results_blk_tmp rfl _ _ w.heap.size 25 zer35 _ rfl hB19 Tryz.underlying25 rfl (info_hd35 _ _ _ _ rfl)) rfl ⟨rfl, HR8.out.chg.fresh hg19 (by simp)⟩
      | true =>
        cases o3 with
        | false =>
          go_wp2_with (first
            | (go_at_call 27; refine (HLEN.out _ _ HR6.out.item HR6.out.lt).mono ?_; rintro e w7 ⟨rfl, hg7⟩; have HR7 := Lib.hid (HR6.out.kept hg7); clear hg7)
            | (go_at_call 28; refine (wit_trail _ _).mono ?_; rintro e w8 ⟨rfl, hg8⟩; have HR8 := Lib.hid (HR6.out.kept hg8); clear hg8)
            | (refine wpList_store_blk rfl _ _ _ rfl w.heap.size zer35 (by rfl) (by rfl) 25 zer35 (HR8.out.bs _ (List.Mem.tail _ (List.Mem.tail _ (List.Mem.tail _ (List.Mem.tail _ (List.Mem.tail _ (List.Mem.head _))))))) (info_hd35 _ _ _ _ rfl) rfl (hdL_one _ _ _ _) ?_; intro w19 hz19 hB19 hg19; clear hz19))
          refine bodyPost_ret (results_blk_tmp rfl _ _ w.heap.size 25 zer35 _ rfl hB19 Tryz.underlying25 rfl (info_hd35 _ _ _ _ rfl)) rfl ⟨rfl, HR8.out.chg.fresh hg19 (by simp)⟩
        | true =>
          have h4 : ((nl : Int) == 4) = false := by
            rw [beq_eq_false_iff_ne]
            intro h
            exact HNO.out ⟨HM0.out rfl, HM1.out rfl, HM2.out rfl, HM3.out rfl, by rw [← HNL.out]; omega⟩
          go_wp2_with (first
            | (go_at_call 27; refine (HLEN.out _ _ HR6.out.item HR6.out.lt).mono ?_; rintro e w7 ⟨rfl, hg7⟩; have HR7 := Lib.hid (HR6.out.kept hg7); clear hg7)
            | (go_at_call 28; refine (wit_trail _ _).mono ?_; rintro e w8 ⟨rfl, hg8⟩; have HR8 := Lib.hid (HR7.out.kept hg8); clear hg8)
            | (refine wpList_store_blk rfl _ _ _ rfl w.heap.size zer35 (by rfl) (by rfl) 25 zer35 (HR8.out.bs _ (List.Mem.tail _ (List.Mem.tail _ (List.Mem.tail _ (List.Mem.tail _ (List.Mem.tail _ (List.Mem.head _))))))) (info_hd35 _ _ _ _ rfl) rfl (hdL_one _ _ _ _) ?_; intro w19 hz19 hB19 hg19; clear hz19))
          refine bodyPost_ret (results_blk_tmp rfl _ _ w.heap.size 25 zer35 _ rfl hB19 Tryz.underlying25 rfl (info_hd35 _ _ _ _ rfl)) rfl ⟨rfl, HR8.out.chg.fresh hg19 (by simp)⟩
end Go.Proofs.YtfdhgakalojahaaGreatDoor

/- WALKS: the program's layer 30: an object of a head's keys that is no head. PLAIN: a good tree is a head or none: all that both Reads tell apart. -/
import Derived.Test.YtfdhgakalojahaaGreatDoorM44
import Derived.Test.YtfdhgakalojahaaGreatDoorM38
set_option linter.unusedSimpArgs false
set_option linter.unusedVariables false
set_option linter.unnecessarySimpa false
set_option linter.unusedSectionVars false
namespace Go.Proofs.YtfdhgakalojahaaGreatDoor
open Go Go.RowKit Tree

theorem ItemAt.back {w w' : World} {F : Nat → Prop} {t : Tr} {v : Value} (h : ItemAt w' F t v) (hg : Chg w w' []) (hF : ∀ k, F k → k < w.heap.size) : ItemAt w F t v :=
  ItemAt.kept (fun b o hb => (hg.cell (p := ⟨b, o, none⟩) (hF b hb) (by simp)).symm) (fun _ h => h) _ _ h

def pO : ByteArray := ⟨#[47, 111, 114, 105, 103, 105, 110]⟩
def pR : ByteArray := ⟨#[47, 114, 111, 111, 116]⟩
def pS : ByteArray := ⟨#[47, 115, 105, 122, 101]⟩
def pT : ByteArray := ⟨#[47, 116, 105, 109, 101]⟩

/-- the bytes that letters say -/
def rbOf (s : ByteArray) : List UInt8 := (List.range 32).map fun j => UInt8.ofNat (unhexB s j).toNat

theorem rbOf_length (s : ByteArray) : (rbOf s).length = 32 := by simp [rbOf]

theorem hexNum_lt16 (c : Nat) : hexNum c < 16 := by
  unfold hexNum
  repeat' split
  all_goals omega

theorem unhex_rb {s : ByteArray} (h : digOK s = true) : unhexV s 32 = (rbOf s).map byV := by
  unfold digOK hexOK at h
  simp only [Bool.and_eq_true, decide_eq_true_eq, List.all_eq_true, List.mem_range] at h
  unfold unhexV rbOf
  rw [List.map_map]
  apply List.map_congr_left
  intro j hj
  have hj' : j < 32 := List.mem_range.1 hj
  have h1 := h.1.2 (2 * j) (by omega)
  have h2 := h.1.2 (2 * j + 1) (by omega)
  have h3 := hexNum_lt16 (Utf.byteAt s (2 * j))
  have h4 := hexNum_lt16 (Utf.byteAt s (2 * j + 1))
  exact (byV_of (by unfold unhexB; omega)).symm

/-- the pointer of the first thing by which the four values are no head -/
def headBad (A B C D : Tr) : Option ByteArray :=
  if (isText A && originB (textT A)) = false then some pO
  else if (isText B && digOK (textT B)) = false then some pR
  else match cntN C with
    | none => some pS
    | some n => if n = 0 ∧ (rbOf (textT B) == noD) = false then some pR else match cntN D with
      | none => some pT
      | some _ => none

set_option maxRecDepth 200000 in
set_option maxHeartbeats 32000000 in
theorem wit_Read_bad (F : Nat → Prop) (tb : Nat) (A B C D : Tr) (p : ByteArray) (w : World) (hl : Laid w) (hT : TreeAt w F tb (.obj keys4 [A, B, C, D])) (hF : ∀ k, F k → k < w.heap.size) (hg : GoodT A ∧ GoodT B ∧ GoodT C ∧ GoodT D) (hbad : headBad A B C D = some p) :
    Calls Tryz.prog 9 #[.pointer (some ⟨tb, 0, none⟩)] w (ReadNo p w) := by
  have HLT := Lib.hid hF
  have HGD := Lib.hid hg
  have HBAD := Lib.hid hbad
  clear hg hbad
  obtain ⟨v, hc0, hit0, htb⟩ := hT
  obtain ⟨ti, tx, rfl⟩ := hit0.iface
  obtain ⟨w0, hw0⟩ : ∃ x, x = w.alloc (.cells zer35.toArray 25) := ⟨_, rfl⟩
  have HR0 : Hid (RW w w0 F tb (.iface ti tx) (.obj keys4 [A, B, C, D]) [(w.heap.size, zer35, 25)]) := by
    rw [hw0]
    exact Lib.hid (RW.new (L := []) ⟨Chg.refl _ _, hit0, hF, hl, (fun p hp => by cases hp)⟩ zer35 _)
  have HW := Lib.hid hw0
  have hc : w0.cell? ⟨tb, 0, none⟩ = some (.iface ti tx) := HR0.out.chg.keeps hc0
  have htb0 : tb < w0.heap.size := Nat.lt_of_lt_of_le htb HR0.out.chg.size
  clear hw0 hc0 hit0 htb hF hl
  go_enter Tryz.func9, Tryz.ntmps9
  go_wp2_with fail
  change Calls _ _ _ (w.alloc (.cells zer35.toArray 25)) _
  rw [← HW.out]
  refine (tree_Root F tb (.iface ti tx) w0 hc ⟨ti, tx, rfl⟩ htb0).mono ?_
  rintro e w1 ⟨rfl, hg1⟩
  have HR1 := Lib.hid ((HR0.out.kept hg1).new [.iface ti tx] 74)
  obtain ⟨B4, hB4⟩ : ∃ B, B = w1.heap.size := ⟨_, rfl⟩
  rw [← hB4] at HR1
  clear hg1 HR0 hc htb0 HW
  obtain ⟨w2, hw2⟩ : ∃ x, x = w1.alloc (.cells #[.iface ti tx] 74) := ⟨_, rfl⟩
  have HW2 := Lib.hid hw2
  have HR2 : Hid (RW w w2 F tb (.iface ti tx) (.obj keys4 [A, B, C, D]) [(B4, [.iface ti tx], 74), (w.heap.size, zer35, 25)]) := by rw [hw2]; exact HR1
  have q4 : w2.cell? ⟨B4, 0, none⟩ = some (.iface ti tx) := (HR2.out.bs _ (List.Mem.head _)).cell 0
  clear hw2 HR1
  go_upto_region 4 with (fail)
  rw [← HW2.out, ← hB4]
  clear HW2 hB4 w1
  go_upto_region 5 with (first | (go_at_call 26; refine (find_head F A B C D (.iface ti tx) 0 kO A rfl rfl _ HR2.out.item HR2.out.lt).mono ?_; rintro e wx ⟨x, rfl, hgx, hix⟩; have HRX := Lib.hid (HR2.out.kept hgx); obtain ⟨tA, xA, rfl⟩ := hix.iface; have HIA : Hid (ItemAt w F A (.iface tA xA)) := Lib.hid (hix.back HRX.out.chg HLT.out); clear hgx q4 hix))
  obtain ⟨B5, hB5⟩ : ∃ B, B = wx.heap.size := ⟨_, rfl⟩
  obtain ⟨w3, hw⟩ : ∃ y, y = wx.alloc (.cells #[.iface tA xA] 74) := ⟨_, rfl⟩
  have HR3 : Hid (RW w w3 F tb (.iface ti tx) (.obj keys4 [A, B, C, D]) [(B5, [.iface tA xA], 74), (B4, [.iface ti tx], 74), (w.heap.size, zer35, 25)]) := by rw [hw, hB5]; exact Lib.hid (HRX.out.new _ _)
  have q4 : w3.cell? ⟨B4, 0, none⟩ = some (.iface ti tx) := (HR3.out.bs _ (List.Mem.tail _ (List.Mem.head _))).cell 0
  rw [← hw, ← hB5]
  clear hw hB5 HRX HR2
  clear wx
  go_upto_region 6 with (first | (go_at_call 26; refine (find_head F A B C D (.iface ti tx) 1 kR B rfl rfl _ HR3.out.item HR3.out.lt).mono ?_; rintro e wx ⟨x, rfl, hgx, hix⟩; have HRX := Lib.hid (HR3.out.kept hgx); obtain ⟨tB, xB, rfl⟩ := hix.iface; have HIB : Hid (ItemAt w F B (.iface tB xB)) := Lib.hid (hix.back HRX.out.chg HLT.out); clear hgx q4 hix))
  obtain ⟨B7, hB7⟩ : ∃ B, B = wx.heap.size := ⟨_, rfl⟩
  obtain ⟨w4, hw⟩ : ∃ y, y = wx.alloc (.cells #[.iface tB xB] 74) := ⟨_, rfl⟩
  have HR4 : Hid (RW w w4 F tb (.iface ti tx) (.obj keys4 [A, B, C, D]) [(B7, [.iface tB xB], 74), (B5, [.iface tA xA], 74), (B4, [.iface ti tx], 74), (w.heap.size, zer35, 25)]) := by rw [hw, hB7]; exact Lib.hid (HRX.out.new _ _)
  have q4 : w4.cell? ⟨B4, 0, none⟩ = some (.iface ti tx) := (HR4.out.bs _ (List.Mem.tail _ (List.Mem.tail _ (List.Mem.head _)))).cell 0
  rw [← hw, ← hB7]
  clear hw hB7 HRX HR3
  clear wx
  go_upto_region 7 with (first | (go_at_call 26; refine (find_head F A B C D (.iface ti tx) 2 kS C rfl rfl _ HR4.out.item HR4.out.lt).mono ?_; rintro e wx ⟨x, rfl, hgx, hix⟩; have HRX := Lib.hid (HR4.out.kept hgx); obtain ⟨tC, xC, rfl⟩ := hix.iface; have HIC : Hid (ItemAt w F C (.iface tC xC)) := Lib.hid (hix.back HRX.out.chg HLT.out); clear hgx q4 hix))
  obtain ⟨B9, hB9⟩ : ∃ B, B = wx.heap.size := ⟨_, rfl⟩
  obtain ⟨w5, hw⟩ : ∃ y, y = wx.alloc (.cells #[.iface tC xC] 74) := ⟨_, rfl⟩
  have HR5 : Hid (RW w w5 F tb (.iface ti tx) (.obj keys4 [A, B, C, D]) [(B9, [.iface tC xC], 74), (B7, [.iface tB xB], 74), (B5, [.iface tA xA], 74), (B4, [.iface ti tx], 74), (w.heap.size, zer35, 25)]) := by rw [hw, hB9]; exact Lib.hid (HRX.out.new _ _)
  have q4 : w5.cell? ⟨B4, 0, none⟩ = some (.iface ti tx) := (HR5.out.bs _ (List.Mem.tail _ (List.Mem.tail _ (List.Mem.tail _ (List.Mem.head _))))).cell 0
  rw [← hw, ← hB9]
  clear hw hB9 HRX HR4
  clear wx
  go_upto_region 8 with (first | (go_at_call 26; refine (find_head F A B C D (.iface ti tx) 3 kT D rfl rfl _ HR5.out.item HR5.out.lt).mono ?_; rintro e wx ⟨x, rfl, hgx, hix⟩; have HRX := Lib.hid (HR5.out.kept hgx); obtain ⟨tD, xD, rfl⟩ := hix.iface; have HID : Hid (ItemAt w F D (.iface tD xD)) := Lib.hid (hix.back HRX.out.chg HLT.out); clear hgx q4 hix))
  obtain ⟨B11, hB11⟩ : ∃ B, B = wx.heap.size := ⟨_, rfl⟩
  obtain ⟨w6, hw⟩ : ∃ y, y = wx.alloc (.cells #[.iface tD xD] 74) := ⟨_, rfl⟩
  have HR6 : Hid (RW w w6 F tb (.iface ti tx) (.obj keys4 [A, B, C, D]) [(B11, [.iface tD xD], 74), (B9, [.iface tC xC], 74), (B7, [.iface tB xB], 74), (B5, [.iface tA xA], 74), (B4, [.iface ti tx], 74), (w.heap.size, zer35, 25)]) := by rw [hw, hB11]; exact Lib.hid (HRX.out.new _ _)
  have q4 : w6.cell? ⟨B4, 0, none⟩ = some (.iface ti tx) := (HR6.out.bs _ (List.Mem.tail _ (List.Mem.tail _ (List.Mem.tail _ (List.Mem.tail _ (List.Mem.head _)))))).cell 0
  rw [← hw, ← hB11]
  clear hw hB11 HRX HR5
  clear wx
  have hlen4 : (itemsT (.obj keys4 [A, B, C, D])).length = 4 := rfl
  have HL4 := Lib.hid hlen4
  clear hlen4
  go_upto_region 10 with (first | (go_at_call 27; refine (ref_Len F (.obj keys4 [A, B, C, D]) _ _ HR6.out.item HR6.out.lt).mono ?_; rintro e wx ⟨rfl, hgx⟩; have HRX := Lib.hid (HR6.out.kept hgx); rw [HL4.out]; clear hgx q4))
  have hdH : ∀ p ∈ ([(B11, [.iface tD xD], 74), (B9, [.iface tC xC], 74), (B7, [.iface tB xB], 74), (B5, [.iface tA xA], 74), (B4, [.iface ti tx], 74), (w.heap.size, zer35, 25)] : List (Nat × List Value × TypeId)), p.1 ≠ wx.heap.size := fun p hp => Nat.ne_of_lt (HRX.out.bs p hp).lt
  have hHw : w.heap.size ≤ wx.heap.size := HRX.out.chg.size
  obtain ⟨H, hH⟩ : ∃ H, H = wx.heap.size := ⟨_, rfl⟩
  obtain ⟨w7, hw7⟩ : ∃ y, y = wx.alloc (.cells zer35.toArray 25) := ⟨_, rfl⟩
  have HR7 : Hid (RW w w7 F tb (.iface ti tx) (.obj keys4 [A, B, C, D]) [(H, zer35, 25), (B11, [.iface tD xD], 74), (B9, [.iface tC xC], 74), (B7, [.iface tB xB], 74), (B5, [.iface tA xA], 74), (B4, [.iface ti tx], 74), (w.heap.size, zer35, 25)]) := by rw [hw7, hH]; exact Lib.hid (HRX.out.new _ _)
  rw [← hH] at hdH hHw
  have HDH := Lib.hid hdH
  have HW7 := Lib.hid hw7
  have q5 : w7.cell? ⟨B5, 0, none⟩ = some (.iface tA xA) := (HR7.out.bs _ (List.Mem.tail _ (List.Mem.tail _ (List.Mem.tail _ (List.Mem.tail _ (List.Mem.head _)))))).cell 0
  clear hdH hw7 HRX HR6
  go_upto_region 12 with (fail)
  change Code.wp _ _ _ _ (wx.alloc (.cells zer35.toArray 25))
  rw [← HW7.out, ← hH]
  clear hH HW7
  clear wx
  have hTx : Hid (∀ (u : Tr) (v : Value) wz, ItemAt w F u v → Chg w wz [] → Calls Tryz.prog 29 #[.agg #[v]] wz fun e w' => e = .returned (.tuple #[.string (textT u), .bool (isText u)]) ∧ Chg wz w' []) := Lib.hid fun u v wz h hc => ref_Text F u v wz (ItemAt.kept (hc.keepsF HLT.out (by simp)) (fun _ h => h) _ _ h)
  have hCx : Hid (∀ (u : Tr) (v : Value) wz, GoodT u → ItemAt w F u v → Chg w wz [] → Calls Tryz.prog 31 #[.agg #[v]] wz (CntPost (cntN u) wz)) := Lib.hid fun u v wz hgu h hc => wit_count F u v wz (ItemAt.kept (hc.keepsF HLT.out (by simp)) (fun _ h => h) _ _ h) (fun b hb => Nat.lt_of_lt_of_le (HLT.out b hb) hc.size) (fun b e => by subst e; simpa only [GoodT] using hgu)
  obtain ⟨o, ho⟩ : ∃ o, o = textT A := ⟨_, rfl⟩
  obtain ⟨bA, hbA⟩ : ∃ x, x = isText A := ⟨_, rfl⟩
  have hsA : o.size ≤ 2147483648 := by
    rw [ho]
    have := HGD.out.1
    cases A <;> simp only [textT, GoodT] at this ⊢
    all_goals first | (have := this.2; omega) | (show (0 : Nat) ≤ _; omega)
  have HOA : Hid (o = textT A ∧ bA = isText A) := Lib.hid ⟨ho, hbA⟩
  have hTA : Hid (∀ wz, Chg w wz [] → Calls Tryz.prog 29 #[.agg #[.iface tA xA]] wz fun e w' => e = .returned (.tuple #[.string o, .bool bA]) ∧ Chg wz w' []) := Lib.hid fun wz h => by rw [ho, hbA]; exact hTx.out A _ wz HIA.out h
  clear ho hbA
  go_upto_region 13 with (first | (go_at_call 29; refine (hTA.out _ HR7.out.chg).mono ?_; rintro e wx ⟨rfl, hgx⟩; have HRX := Lib.hid (HR7.out.kept hgx); have hfz : ∀ j, wx.frozen? ⟨H, j, none⟩ = false := (fun j => (HRX.out.bs _ (List.Mem.head _)).frozen j); have hc0 : wx.cell? ⟨H, 0, none⟩ = some (.string ⟨#[]⟩) := (HRX.out.bs _ (List.Mem.head _)).cell 0; have hlH := (HRX.out.bs _ (List.Mem.head _)).lt; clear hgx q5))
  obtain ⟨w8, hw8⟩ : ∃ y, y = wx.setCell ⟨H, 0, none⟩ (.string o) := ⟨_, rfl⟩
  have HR8 : Hid (RW w w8 F tb (.iface ti tx) (.obj keys4 [A, B, C, D]) [(H, hdL o 0 z32 0, 25), (B11, [.iface tD xD], 74), (B9, [.iface tC xC], 74), (B7, [.iface tB xB], 74), (B5, [.iface tA xA], 74), (B4, [.iface ti tx], 74), (w.heap.size, zer35, 25)]) := by rw [hw8]; exact Lib.hid (HRX.out.set hHw HDH.out 0 (.string o))
  rw [← hw8]
  clear hw8 HRX hfz hc0 hlH HR7
  clear wx
  have qH0 : w8.cell? ⟨H, 0, none⟩ = some (.string o) := (HR8.out.bs _ (List.Mem.head _)).cell 0
  by_cases hA : (isText A && originB (textT A)) = true
  · have hA' : bA = true ∧ originB o = true := by rw [HOA.out.1, HOA.out.2]; simpa using hA
    obtain ⟨rfl, hob⟩ := hA'
    have hbad2 : (if (isText B && digOK (textT B)) = false then some pR else match cntN C with
        | none => some pS
        | some n => if n = 0 ∧ (rbOf (textT B) == noD) = false then some pR else match cntN D with
          | none => some pT
          | some _ => none) = some p := by have := HBAD.out; unfold headBad at this; rwa [if_neg (by simp [hA])] at this
    have HB2 := Lib.hid hbad2
    have HOB := Lib.hid hob
    have hOR : Hid (∀ wz, Calls Tryz.prog 30 #[.string o] wz fun e w' => e = .returned (.bool true) ∧ Chg wz w' []) := Lib.hid fun wz => by rw [← HOB.out]; exact wit_origin o wz hsA
    clear hbad2 hob hA
    obtain ⟨h, hh⟩ : ∃ h, h = textT B := ⟨_, rfl⟩
    obtain ⟨bB, hbB⟩ : ∃ x, x = isText B := ⟨_, rfl⟩
    have hsB : h.size ≤ 2147483648 := by
      rw [hh]
      have := HGD.out.2.1
      cases B <;> simp only [textT, GoodT] at this ⊢
      all_goals first | (have := this.2; omega) | (show (0 : Nat) ≤ _; omega)
    have HHB : Hid (h = textT B ∧ bB = isText B) := Lib.hid ⟨hh, hbB⟩
    have hTB : Hid (∀ wz, Chg w wz [] → Calls Tryz.prog 29 #[.agg #[.iface tB xB]] wz fun e w' => e = .returned (.tuple #[.string h, .bool bB]) ∧ Chg wz w' []) := Lib.hid fun wz g => by rw [hh, hbB]; exact hTx.out B _ wz HIB.out g
    clear hh hbB
    obtain ⟨cn, hcn⟩ : ∃ x, x = cntN C := ⟨_, rfl⟩
    have HCN := Lib.hid hcn
    obtain ⟨cv, cb, hcv⟩ : ∃ (cv : Int) (cb : Bool), (cn = none → cv = 0 ∧ cb = false) ∧ (∀ k, cn = some k → cv = k ∧ cb = true) := by
      cases cn with
      | none => exact ⟨0, false, fun _ => ⟨rfl, rfl⟩, fun k h => by cases h⟩
      | some k => exact ⟨k, true, fun h => (by cases h), fun k' h => by injection h with h; subst h; exact ⟨rfl, rfl⟩⟩
    have HCV := Lib.hid hcv
    have hCC : Hid (∀ wz, Chg w wz [] → Calls Tryz.prog 31 #[.agg #[.iface tC xC]] wz fun e w' => e = .returned (.tuple #[.int .i64 cv, .bool cb]) ∧ Chg wz w' []) := Lib.hid fun wz g => (hCx.out C _ wz HGD.out.2.2.1 HIC.out g).mono fun e w' hp => by
      unfold CntPost at hp
      rw [← HCN.out] at hp
      cases cn with
      | none => obtain ⟨e1, e2⟩ := HCV.out.1 rfl; rw [e1, e2]; exact hp
      | some k => obtain ⟨e1, e2⟩ := HCV.out.2 k rfl; rw [e1, e2]; exact hp
    obtain ⟨dl, hdl, hTD'⟩ : ∃ (dl : List UInt8), dl.length = 32 ∧ (∀ wz, Calls Tryz.prog 32 #[.string h] wz fun e w' => (∃ ev, e = .returned (.tuple #[.agg (dl.map byV).toArray, ev]) ∧ ((digOK h = true ∧ ev = .nilIface ∧ dl = rbOf h) ∨ (digOK h = false ∧ ∃ ti x, ev = .iface ti x))) ∧ Chg wz w' []) := by
      by_cases hdo : digOK h = true
      · refine ⟨rbOf h, rbOf_length h, fun wz => (base_ToDigest h hsB wz).mono fun e w' hp => ?_⟩
        obtain ⟨hg, ⟨_, e1⟩ | ⟨e1, _⟩⟩ := hp
        · rw [← unhex_rb hdo]; exact ⟨⟨_, e1, .inl ⟨hdo, rfl, rfl⟩⟩, hg⟩
        · rw [hdo] at e1; cases e1
      · have hdo' : digOK h = false := by simpa using hdo
        refine ⟨z32, rfl, fun wz => (base_ToDigest h hsB wz).mono fun e w' hp => ?_⟩
        obtain ⟨hg, ⟨e1, _⟩ | ⟨_, ti, x, e1⟩⟩ := hp
        · rw [hdo'] at e1; cases e1
        · exact ⟨⟨_, e1, .inr ⟨hdo', ti, x, rfl⟩⟩, hg⟩
    have hTD := Lib.hid hTD'
    have HDL := Lib.hid hdl
    have hrb1 : (dl.map byV).length = 32 := by rw [List.length_map, hdl]
    have HRB := Lib.hid hrb1
    clear hcn hcv hTD' hdl hrb1
    go_upto_region 18 with (first
      | (go_at_call 30; refine (hOR.out _).mono ?_; rintro e w9 ⟨rfl, hgx⟩; have HR9 := Lib.hid (HR8.out.kept hgx); have qx : w9.cell? ⟨B9, 0, none⟩ = some (.iface tC xC) := (HR9.out.bs _ (List.Mem.tail _ (List.Mem.tail _ (List.Mem.head _)))).cell 0; clear hgx qH0)
      | (go_at_call 31; refine (hCC.out _ HR9.out.chg).mono ?_; rintro e w10 ⟨rfl, hgx⟩; have HR10 := Lib.hid (HR9.out.kept hgx); clear qx; have qx : w10.cell? ⟨B7, 0, none⟩ = some (.iface tB xB) := (HR10.out.bs _ (List.Mem.tail _ (List.Mem.tail _ (List.Mem.tail _ (List.Mem.head _))))).cell 0; clear hgx)
      | (go_at_call 29; refine (hTB.out _ HR10.out.chg).mono ?_; rintro e w11 ⟨rfl, hgx⟩; have HR11 := Lib.hid (HR10.out.kept hgx); clear hgx qx)
      | (go_at_call 32; refine (hTD.out _).mono ?_; rintro e w12 ⟨⟨ev, rfl, hdc⟩, hgx⟩; have HDC := Lib.hid hdc; clear hdc; have HR12 := Lib.hid (HR11.out.kept hgx); clear hgx)
      | (refine wpList_store_blk rfl _ _ _ rfl w12.heap.size (dl.map byV) rfl rfl 23 zer32 (Blk.new w12 zer32 _) (by rw [info_dg5, HRB.out]) (by rw [HRB.out]; rfl) (cell_one dl) ?_; intro w13 hz13 hB13 hg13))
    obtain ⟨Dd, hD⟩ : ∃ D, D = w12.heap.size := ⟨_, rfl⟩
    have hHD : H < w12.heap.size := (HR12.out.bs _ (List.Mem.head _)).lt
    have HR13 : Hid (RW w w13 F tb (.iface ti tx) (.obj keys4 [A, B, C, D])  [(H, hdL o 0 z32 0, 25), (Dd, dl.map byV, 23), (B11, [.iface tD xD], 74), (B9, [.iface tC xC], 74), (B7, [.iface tB xB], 74), (B5, [.iface tA xA], 74), (B4, [.iface ti tx], 74), (w.heap.size, zer35, 25)]) := by rw [hD]; exact Lib.hid (HR12.out.newSet hB13 hg13).swap
    rw [← hD] at hHD ⊢
    have HDD : Hid (∀ p ∈ ([(Dd, dl.map byV, 23), (B11, [.iface tD xD], 74), (B9, [.iface tC xC], 74), (B7, [.iface tB xB], 74), (B5, [.iface tA xA], 74), (B4, [.iface ti tx], 74), (w.heap.size, zer35, 25)] : List (Nat × List Value × TypeId)), p.1 ≠ H) := Lib.hid (fun p hp => by
      rcases List.mem_cons.1 hp with rfl | hp
      · exact Nat.ne_of_gt hHD
      · exact HDH.out p hp)
    have qx : w13.cell? ⟨B11, 0, none⟩ = some (.iface tD xD) := (HR13.out.bs _ (List.Mem.tail _ (List.Mem.tail _ (List.Mem.head _)))).cell 0
    clear hD hB13 hg13 hz13 HR12 HR11 HR10 HR9 HR8
    clear w12 w11 w10 w9 w8
    have hRG : w13.rangeAt Dd 0 (dl.map byV) := fun j v hv => by rw [Nat.zero_add]; exact ((HR13.out.bs _ (List.Mem.tail _ (List.Mem.head _))).cell j).trans hv
    have hrest : ∀ (k : Nat), cn = some k → (isText B && digOK (textT B)) = true → ¬ (k = 0 ∧ (rbOf (textT B) == noD) = false) → cntN D = none ∧ p = pT := fun k hk hb hn => by
      have h1 := HB2.out
      rw [if_neg (by simp [hb]), ← HCN.out, hk] at h1
      simp only at h1
      rw [if_neg hn] at h1
      cases hd : cntN D with
      | none => rw [hd] at h1; exact ⟨rfl, by injection h1 with h1; exact h1.symm⟩
      | some k' => rw [hd] at h1; cases h1
    have HREST := Lib.hid hrest
    have hCD : Hid (cntN D = none → ∀ wz, Chg w wz [] → Calls Tryz.prog 31 #[.agg #[.iface tD xD]] wz fun e w' => e = .returned (.tuple #[.int .i64 0, .bool false]) ∧ Chg wz w' []) := Lib.hid fun hd wz g => (hCx.out D _ wz HGD.out.2.2.2 HID.out g).mono fun e w' hp => by
      unfold CntPost at hp
      rw [hd] at hp
      exact hp
    clear hrest
    cases bB with
    | false =>
      have hp : pR = p := by
        have h1 := HB2.out
        rw [if_pos (by rw [← HHB.out.2]; rfl)] at h1
        injection h1
      subst hp
      clear hRG
      go_quiet (fail)
      go_wp2_with (first
        | (go_at_call 28; refine (wit_trail _ _).mono ?_; rintro e wz8 ⟨rfl, hg8⟩; have HRZ := Lib.hid ((HR13.out.kept ((Chg.refl w13 []).drewN _)).kept hg8); clear hg8)
        | (refine wpList_store_blk rfl _ _ _ rfl w.heap.size zer35 (by rfl) (by rfl) 25 zer35 (HRZ.out.bs _ (List.Mem.tail _ (List.Mem.tail _ (List.Mem.tail _ (List.Mem.tail _ (List.Mem.tail _ (List.Mem.tail _ (List.Mem.tail _ (List.Mem.head _))))))))) (info_hd35 _ _ _ _ rfl) rfl (hdL_one _ _ _ _) ?_; intro w19 hz19 hB19 hg19; clear hz19))
      refine bodyPost_ret (results_blk_tmp rfl _ _ w.heap.size 25 zer35 _ rfl hB19 Tryz.underlying25 rfl (info_hd35 _ _ _ _ rfl)) rfl ⟨rfl, HRZ.out.chg.fresh hg19 (by simp)⟩
    | true =>
      rcases HDC.out with ⟨hdo, rfl, hdlr⟩ | ⟨hdo, eti, ex, rfl⟩
      rotate_left
      · have hp : pR = p := by
          have h1 := HB2.out
          rw [if_pos (by rw [← HHB.out.1, hdo]; simp)] at h1
          injection h1
        subst hp
        clear hRG hdo
        go_quiet (fail)
        go_wp2_with (first
          | (go_at_call 28; refine (wit_trail _ _).mono ?_; rintro e wz8 ⟨rfl, hg8⟩; have HRZ := Lib.hid ((HR13.out.kept ((Chg.refl w13 []).drewN _)).kept hg8); clear hg8)
          | (refine wpList_store_blk rfl _ _ _ rfl w.heap.size zer35 (by rfl) (by rfl) 25 zer35 (HRZ.out.bs _ (List.Mem.tail _ (List.Mem.tail _ (List.Mem.tail _ (List.Mem.tail _ (List.Mem.tail _ (List.Mem.tail _ (List.Mem.tail _ (List.Mem.head _))))))))) (info_hd35 _ _ _ _ rfl) rfl (hdL_one _ _ _ _) ?_; intro w19 hz19 hB19 hg19; clear hz19))
        refine bodyPost_ret (results_blk_tmp rfl _ _ w.heap.size 25 zer35 _ rfl hB19 Tryz.underlying25 rfl (info_hd35 _ _ _ _ rfl)) rfl ⟨rfl, HRZ.out.chg.fresh hg19 (by simp)⟩
      · have hboth : (isText B && digOK (textT B)) = true := by rw [← HHB.out.1, ← HHB.out.2, hdo]; rfl
        have HBO := Lib.hid hboth
        cases hcn : cn with
        | none =>
          obtain ⟨rfl, rfl⟩ := HCV.out.1 hcn
          have hp : pS = p := by
            have h1 := HB2.out
            rw [if_neg (by simp [hboth]), ← HCN.out, hcn] at h1
            injection h1
          subst hp
          clear hRG hdo hboth hcn hdlr
          go_quiet (fail)
          go_wp2_with (first
            | (go_at_call 28; refine (wit_trail _ _).mono ?_; rintro e wz8 ⟨rfl, hg8⟩; have HRZ := Lib.hid ((HR13.out.kept ((Chg.refl w13 []).drewN _)).kept hg8); clear hg8)
            | (refine wpList_store_blk rfl _ _ _ rfl w.heap.size zer35 (by rfl) (by rfl) 25 zer35 (HRZ.out.bs _ (List.Mem.tail _ (List.Mem.tail _ (List.Mem.tail _ (List.Mem.tail _ (List.Mem.tail _ (List.Mem.tail _ (List.Mem.tail _ (List.Mem.head _))))))))) (info_hd35 _ _ _ _ rfl) rfl (hdL_one _ _ _ _) ?_; intro w19 hz19 hB19 hg19; clear hz19))
          refine bodyPost_ret (results_blk_tmp rfl _ _ w.heap.size 25 zer35 _ rfl hB19 Tryz.underlying25 rfl (info_hd35 _ _ _ _ rfl)) rfl ⟨rfl, HRZ.out.chg.fresh hg19 (by simp)⟩
        | some k =>
          obtain ⟨hcv, rfl⟩ := HCV.out.2 k hcn
          by_cases hk0 : k = 0
          · subst hk0
            obtain rfl : cv = 0 := by rw [hcv]; rfl
            have hu := Tryz.underlying23
            have hi : (Tryz.prog.info? 23).map (·.size) = some (dl.map byV).length := by rw [HRB.out]; exact info_dg5
            have HLD := Lib.hid HR13.out.laid
            have hEr := fun w' => run_neq_bytes w' _ 5 32 Tryz.underlying23 Tryz.underlying5 size_u8 dl noD HDL.out noD_length
            have hrbd : (rbOf (textT B) == noD) = (dl == noD) := by rw [← HHB.out.1, hdlr]
            cases hdn : (dl == noD) with
            | true =>
              have hE : ∀ w', (binOp .neq 23 (.agg (dl.map byV).toArray) (.agg (noD.map byV).toArray)).run Tryz.prog w' = .ok (.bool false) w' := fun w' => by rw [hEr, hdn]; rfl
              obtain ⟨hdno, rfl⟩ := HREST.out 0 hcn hboth (by rw [hrbd, hdn]; simp)
              have hCD' := Lib.hid (hCD.out hdno)
              clear hEr hdn hrbd hcn hboth hdo hdlr hcv hdno
              go_region_held3 (fun w' => w'.rangeAt Dd 0 (dl.map byV)) (first | exact hRG | exact (fun j v hv => HG14.out.keeps (hRG j v hv)))
                ((go_at_call 33; refine (book_Empty _ (by exact Laid.kept _ _ HLD.out (by (repeat (first | exact Chg.refl _ _ | with_reducible refine Chg.drewN ?_ _ | with_reducible refine Chg.drew ?_ | with_reducible refine Chg.alloc ?_ _ | with_reducible refine Chg.setCell ?_ _ _ (by simp) | with_reducible refine Chg.setCell ?_ _ _ (by simp; omega)))))).mono ?_; rintro e w14 ⟨rfl, hgx⟩; have HG14 := Lib.hid hgx; have HR14 := Lib.hid ((HR13.out.kept ((Chg.refl w13 []).drew)).kept hgx); have qy : w14.cell? ⟨B11, 0, none⟩ = some (.iface tD xD) := (HR14.out.bs _ (List.Mem.tail _ (List.Mem.tail _ (List.Mem.head _)))).cell 0; clear hgx))
              all_goals
                clear qx hRG hE hu hi
                have qx := qy
                go_upto_region 23 with (first
                  | (go_at_call 31; refine (hCD'.out _ (HR14.out).chg).mono ?_; rintro e w15 ⟨rfl, hgx⟩; have HR15 := Lib.hid ((HR14.out).kept hgx); have hfz : ∀ j, w15.frozen? ⟨H, j, none⟩ = false := (fun j => (HR15.out.bs _ (List.Mem.head _)).frozen j); have hc34 : w15.cell? ⟨H, 34, none⟩ = some (.int .i64 0) := ((HR15.out.bs _ (List.Mem.head _)).cell 34).trans (hdL_34 _ _ _ _ rfl); have hlH := (HR15.out.bs _ (List.Mem.head _)).lt; clear hgx qx))
                obtain ⟨w16, hw16⟩ : ∃ y, y = w15.setCell ⟨H, 34, none⟩ (.int .i64 0) := ⟨_, rfl⟩
                have HR16 := Lib.hid (HR15.out.set hHw HDD.out 34 (.int .i64 0))
                rw [← hw16] at HR16 ⊢
                clear hw16 hfz hc34 hlH
                go_wp2_with (first
                  | (go_at_call 28; refine (wit_trail _ _).mono ?_; rintro e wz8 ⟨rfl, hg8⟩; have HRZ := Lib.hid (HR16.out.kept hg8); clear hg8)
                  | (refine wpList_store_blk rfl _ _ _ rfl w.heap.size zer35 (by rfl) (by rfl) 25 zer35 (HRZ.out.bs _ (List.Mem.tail _ (List.Mem.tail _ (List.Mem.tail _ (List.Mem.tail _ (List.Mem.tail _ (List.Mem.tail _ (List.Mem.tail _ (List.Mem.head _))))))))) (info_hd35 _ _ _ _ rfl) rfl (hdL_one _ _ _ _) ?_; intro w19 hz19 hB19 hg19; clear hz19))
                refine bodyPost_ret (results_blk_tmp rfl _ _ w.heap.size 25 zer35 _ rfl hB19 Tryz.underlying25 rfl (info_hd35 _ _ _ _ rfl)) rfl ⟨rfl, HRZ.out.chg.fresh hg19 (by simp)⟩
            | false =>
              have hE : ∀ w', (binOp .neq 23 (.agg (dl.map byV).toArray) (.agg (noD.map byV).toArray)).run Tryz.prog w' = .ok (.bool true) w' := fun w' => by rw [hEr, hdn]; rfl
              have hp : pR = p := by
                have h1 := HB2.out
                rw [if_neg (by simp [hboth]), ← HCN.out, hcn] at h1
                simp only at h1
                rw [if_pos (by simp [hrbd, hdn])] at h1
                injection h1
              subst hp
              clear hEr hdn hrbd hcn hboth hdo hdlr hcv
              go_region_held3 (fun w' => w'.rangeAt Dd 0 (dl.map byV)) (first | exact hRG | exact (fun j v hv => HG14.out.keeps (hRG j v hv)))
                ((go_at_call 33; refine (book_Empty _ (by exact Laid.kept _ _ HLD.out (by (repeat (first | exact Chg.refl _ _ | with_reducible refine Chg.drewN ?_ _ | with_reducible refine Chg.drew ?_ | with_reducible refine Chg.alloc ?_ _ | with_reducible refine Chg.setCell ?_ _ _ (by simp) | with_reducible refine Chg.setCell ?_ _ _ (by simp; omega)))))).mono ?_; rintro e w14 ⟨rfl, hgx⟩; have HG14 := Lib.hid hgx; have HR14 := Lib.hid ((HR13.out.kept ((Chg.refl w13 []).drew)).kept hgx); clear hgx))
              all_goals
                clear hRG hE hu hi
                go_wp2_with (first
                  | (go_at_call 28; refine (wit_trail _ _).mono ?_; rintro e wz8 ⟨rfl, hg8⟩; have HRZ := Lib.hid (HR14.out.kept hg8); clear hg8)
                  | (refine wpList_store_blk rfl _ _ _ rfl w.heap.size zer35 (by rfl) (by rfl) 25 zer35 (HRZ.out.bs _ (List.Mem.tail _ (List.Mem.tail _ (List.Mem.tail _ (List.Mem.tail _ (List.Mem.tail _ (List.Mem.tail _ (List.Mem.tail _ (List.Mem.head _))))))))) (info_hd35 _ _ _ _ rfl) rfl (hdL_one _ _ _ _) ?_; intro w19 hz19 hB19 hg19; clear hz19))
                refine bodyPost_ret (results_blk_tmp rfl _ _ w.heap.size 25 zer35 _ rfl hB19 Tryz.underlying25 rfl (info_hd35 _ _ _ _ rfl)) rfl ⟨rfl, HRZ.out.chg.fresh hg19 (by simp)⟩
          · have d0 : ((cv : Int) == 0) = false := by rw [hcv]; simp; omega
            obtain ⟨hdno, rfl⟩ := HREST.out k hcn hboth (fun g => hk0 g.1)
            have hCD' := Lib.hid (hCD.out hdno)
            clear hk0 hcn hboth hdo hdlr hcv hdno hRG
            go_quiet (fail)
            go_upto_region 23 with (first
              | (go_at_call 31; refine (hCD'.out _ ((HR13.out.kept ((Chg.refl w13 []).drewN _))).chg).mono ?_; rintro e w15 ⟨rfl, hgx⟩; have HR15 := Lib.hid (((HR13.out.kept ((Chg.refl w13 []).drewN _))).kept hgx); have hfz : ∀ j, w15.frozen? ⟨H, j, none⟩ = false := (fun j => (HR15.out.bs _ (List.Mem.head _)).frozen j); have hc34 : w15.cell? ⟨H, 34, none⟩ = some (.int .i64 0) := ((HR15.out.bs _ (List.Mem.head _)).cell 34).trans (hdL_34 _ _ _ _ rfl); have hlH := (HR15.out.bs _ (List.Mem.head _)).lt; clear hgx qx))
            obtain ⟨w16, hw16⟩ : ∃ y, y = w15.setCell ⟨H, 34, none⟩ (.int .i64 0) := ⟨_, rfl⟩
            have HR16 := Lib.hid (HR15.out.set hHw HDD.out 34 (.int .i64 0))
            rw [← hw16] at HR16 ⊢
            clear hw16 hfz hc34 hlH
            go_wp2_with (first
              | (go_at_call 28; refine (wit_trail _ _).mono ?_; rintro e wz8 ⟨rfl, hg8⟩; have HRZ := Lib.hid (HR16.out.kept hg8); clear hg8)
              | (refine wpList_store_blk rfl _ _ _ rfl w.heap.size zer35 (by rfl) (by rfl) 25 zer35 (HRZ.out.bs _ (List.Mem.tail _ (List.Mem.tail _ (List.Mem.tail _ (List.Mem.tail _ (List.Mem.tail _ (List.Mem.tail _ (List.Mem.tail _ (List.Mem.head _))))))))) (info_hd35 _ _ _ _ rfl) rfl (hdL_one _ _ _ _) ?_; intro w19 hz19 hB19 hg19; clear hz19))
            refine bodyPost_ret (results_blk_tmp rfl _ _ w.heap.size 25 zer35 _ rfl hB19 Tryz.underlying25 rfl (info_hd35 _ _ _ _ rfl)) rfl ⟨rfl, HRZ.out.chg.fresh hg19 (by simp)⟩
  · have hp : pO = p := by have := HBAD.out; unfold headBad at this; rw [if_pos (by simpa using hA)] at this; injection this
    subst hp
    cases bA with
    | false =>
      clear hA
      go_wp2_with (first
        | (go_at_call 28; refine (wit_trail _ _).mono ?_; rintro e wz8 ⟨rfl, hg8⟩; have HRZ := Lib.hid (HR8.out.kept hg8); clear hg8)
        | (refine wpList_store_blk rfl _ _ _ rfl w.heap.size zer35 (by rfl) (by rfl) 25 zer35 (HRZ.out.bs _ (List.Mem.tail _ (List.Mem.tail _ (List.Mem.tail _ (List.Mem.tail _ (List.Mem.tail _ (List.Mem.tail _ (List.Mem.head _)))))))) (info_hd35 _ _ _ _ rfl) rfl (hdL_one _ _ _ _) ?_; intro w19 hz19 hB19 hg19; clear hz19))
      refine bodyPost_ret (results_blk_tmp rfl _ _ w.heap.size 25 zer35 _ rfl hB19 Tryz.underlying25 rfl (info_hd35 _ _ _ _ rfl)) rfl ⟨rfl, HRZ.out.chg.fresh hg19 (by simp)⟩
    | true =>
      have hob : originB o = false := by
        have h2 := HOA.out
        rw [← h2.1, ← h2.2] at hA
        simpa using hA
      have hOR : Hid (∀ wz, Calls Tryz.prog 30 #[.string o] wz fun e w' => e = .returned (.bool false) ∧ Chg wz w' []) := Lib.hid fun wz => by rw [← hob]; exact wit_origin o wz hsA
      clear hA hob
      go_upto_region 14 with (first
        | (go_at_call 30; refine (hOR.out _).mono ?_; rintro e w9 ⟨rfl, hgx⟩; have HR9 := Lib.hid (HR8.out.kept hgx); clear hgx qH0))
      go_wp2_with (first
        | (go_at_call 28; refine (wit_trail _ _).mono ?_; rintro e wz8 ⟨rfl, hg8⟩; have HRZ := Lib.hid (HR9.out.kept hg8); clear hg8)
        | (refine wpList_store_blk rfl _ _ _ rfl w.heap.size zer35 (by rfl) (by rfl) 25 zer35 (HRZ.out.bs _ (List.Mem.tail _ (List.Mem.tail _ (List.Mem.tail _ (List.Mem.tail _ (List.Mem.tail _ (List.Mem.tail _ (List.Mem.head _)))))))) (info_hd35 _ _ _ _ rfl) rfl (hdL_one _ _ _ _) ?_; intro w19 hz19 hB19 hg19; clear hz19))
      refine bodyPost_ret (results_blk_tmp rfl _ _ w.heap.size 25 zer35 _ rfl hB19 Tryz.underlying25 rfl (info_hd35 _ _ _ _ rfl)) rfl ⟨rfl, HRZ.out.chg.fresh hg19 (by simp)⟩
end Go.Proofs.YtfdhgakalojahaaGreatDoor

namespace Go.Proofs.YtfdhgakalojahaaGreatDoor
open Go Go.RowKit Tree

theorem hexD_hexNum {c : Nat} (h : 0 ≤ hexNum c) : hexD (hexNum c).toNat = c := by
  unfold hexNum at h ⊢
  unfold hexD
  by_cases h1 : 48 ≤ c ∧ c ≤ 57
  · rw [if_pos h1]
    rw [if_pos (by omega)]
    omega
  · rw [if_neg h1] at h ⊢
    by_cases h2 : 97 ≤ c ∧ c ≤ 102
    · rw [if_pos h2]
      rw [if_neg (by omega)]
      omega
    · rw [if_neg h2] at h
      omega

theorem byte_ext {a b : ByteArray} (hs : a.size = b.size) (h : ∀ i, i < a.size → Utf.byteAt a i = Utf.byteAt b i) : a = b := by
  refine ByteArray.ext (Array.ext hs fun i h1 h2 => ?_)
  have h1' : i < a.size := h1
  have h2' : i < b.size := h2
  have := h i h1'
  rw [Utf.byteAt_eq h1', Utf.byteAt_eq h2'] at this
  exact UInt8.toNat_inj.1 this

theorem byteAt_dgB (rb : List UInt8) {i : Nat} (h : i < rb.length) : Utf.byteAt (dgB rb) i = (rb[i]'h).toNat := by
  have hs : i < (dgB rb).size := by rw [dgB_size]; exact h
  rw [Utf.byteAt_eq hs]
  rfl

theorem rbOf_get (s : ByteArray) {i : Nat} (h : i < 32) : (rbOf s)[i]'(by rw [rbOf_length]; exact h) = UInt8.ofNat (unhexB s i).toNat := by
  unfold rbOf
  rw [List.getElem_map, List.getElem_range]

theorem hexS_rb {s : ByteArray} (h : digOK s = true) : hexS (dgB (rbOf s)) = s := by
  have hk := h
  unfold digOK hexOK at hk
  simp only [Bool.and_eq_true, decide_eq_true_eq, List.all_eq_true, List.mem_range] at hk
  obtain ⟨⟨_, hall⟩, h64⟩ := hk
  have hsz : (dgB (rbOf s)).size = 32 := by rw [dgB_size, rbOf_length]
  refine byte_ext (by rw [hexS_size, hsz, h64]) fun i hi => ?_
  rw [hexS_size, hsz] at hi
  rw [hexS_byte _ i (by rw [hsz]; exact hi)]
  have hj : i / 2 < 32 := by omega
  have hb : Utf.byteAt (dgB (rbOf s)) (i / 2) = (unhexB s (i / 2)).toNat := by
    rw [byteAt_dgB _ (by rw [rbOf_length]; exact hj), rbOf_get s hj, UInt8.toNat_ofNat']
    have a1 := hall (2 * (i / 2)) (by omega)
    have a2 := hall (2 * (i / 2) + 1) (by omega)
    have b1 := hexNum_lt16 (Utf.byteAt s (2 * (i / 2)))
    have b2 := hexNum_lt16 (Utf.byteAt s (2 * (i / 2) + 1))
    unfold unhexB
    omega
  have a1 := hall (2 * (i / 2)) (by omega)
  have a2 := hall (2 * (i / 2) + 1) (by omega)
  have b1 := hexNum_lt16 (Utf.byteAt s (2 * (i / 2)))
  have b2 := hexNum_lt16 (Utf.byteAt s (2 * (i / 2) + 1))
  have hd := hexD_hexNum (hall i (by omega))
  unfold nib
  rw [hb]
  unfold unhexB
  by_cases hp : i % 2 = 0
  · rw [if_pos hp]
    have e : 2 * (i / 2) = i := by omega
    rw [e] at a1 a2 b1 b2 ⊢
    rw [show (16 * hexNum (Utf.byteAt s i) + hexNum (Utf.byteAt s (i + 1))).toNat / 16 = (hexNum (Utf.byteAt s i)).toNat from by omega]
    exact hd
  · rw [if_neg hp]
    have e : 2 * (i / 2) + 1 = i := by omega
    rw [e] at a2 b2 ⊢
    rw [show (16 * hexNum (Utf.byteAt s (2 * (i / 2))) + hexNum (Utf.byteAt s i)).toNat % 16 = (hexNum (Utf.byteAt s i)).toNat from by omega]
    exact hd

theorem cntN_some {t : Tr} {n : Nat} (h : cntN t = some n) : t = .num (Fl.wd n) ∧ n < 9007199254740992 := by
  cases t with
  | num b =>
    rw [cntN_num] at h
    split at h
    · rename_i hb
      injection h with h
      subst h
      exact ⟨by rw [hb.2], Fl.tr_lt hb.1⟩
    · cases h
  | _ => cases h

/-- nothing is wrong: a head -/
theorem head_good {A B C D : Tr} (h : headBad A B C D = none) :
    ∃ o n m rb, rb.length = 32 ∧ mayB (originB o) (n : Nat) (m : Nat) (rb == noD) = true ∧ Tr.obj keys4 [A, B, C, D] = headT o (hexS (dgB rb)) n m ∧ textT A = o ∧ cntI (cntN C) = n ∧ rbOf (textT B) = rb ∧ cntI (cntN D) = m := by
  unfold headBad at h
  split at h
  · cases h
  · rename_i hA
    split at h
    · cases h
    · rename_i hB
      split at h
      · cases h
      · rename_i n hC
        split at h
        · cases h
        · rename_i hz
          split at h
          · cases h
          · rename_i m hD
            simp only [Bool.not_eq_false, Bool.and_eq_true] at hA hB
            obtain ⟨hC', hn⟩ := cntN_some hC
            obtain ⟨hD', hm⟩ := cntN_some hD
            refine ⟨textT A, n, m, rbOf (textT B), rbOf_length _, ?_, ?_, rfl, by rw [hC]; rfl, rfl, by rw [hD]; rfl⟩
            · unfold mayB
              rw [hA.2]
              simp only [Bool.and_eq_true, decide_eq_true_eq, Bool.or_eq_true, Bool.true_and]
              refine ⟨⟨⟨⟨by omega, by omega⟩, by omega⟩, by omega⟩, ?_⟩
              by_cases h0 : n = 0
              · right
                by_cases hr : (rbOf (textT B) == noD) = true
                · exact hr
                · exact absurd ⟨h0, by simpa using hr⟩ hz
              · left; omega
            · unfold headT
              rw [hexS_rb hB.2, hC', hD']
              have eA : A = .text (textT A) := by cases A <;> first | rfl | (simp [isText] at hA)
              have eB : B = .text (textT B) := by cases B <;> first | rfl | (simp [isText] at hB)
              rw [← eA, ← eB]

theorem keys4_all {ks : List ByteArray} (hk : KeysOK ks) (h : kO ∈ ks ∧ kR ∈ ks ∧ kS ∈ ks ∧ kT ∈ ks) (hl : ks.length = 4) : ks = keys4 := by
  obtain ⟨h0, h1, h2, h3⟩ := h
  have ne : ∀ {a b : ByteArray} {i j : Nat}, ks[i]? = some a → ks[j]? = some b → (!decide (Utf.cmpR b a < 0)) = true → a ≠ b → i < j := fun {a b i j} ha hb hc hn => by
    rcases Nat.lt_trichotomy i j with h | h | h
    · exact h
    · subst h; rw [ha] at hb; injection hb with hb; exact absurd hb hn
    · have := hk.lt hb ha h
      simp only [Bool.not_eq_true', decide_eq_false_iff_not] at hc
      exact absurd this hc
  obtain ⟨i0, h0⟩ := List.mem_iff_getElem?.1 h0
  obtain ⟨i1, h1⟩ := List.mem_iff_getElem?.1 h1
  obtain ⟨i2, h2⟩ := List.mem_iff_getElem?.1 h2
  obtain ⟨i3, h3⟩ := List.mem_iff_getElem?.1 h3
  have d01 := ne h0 h1 (by kernel_rfl) (by decide)
  have d12 := ne h1 h2 (by kernel_rfl) (by decide)
  have d23 := ne h2 h3 (by kernel_rfl) (by decide)
  have l3 := (List.getElem?_eq_some_iff.1 h3).1
  obtain rfl : i0 = 0 := by omega
  obtain rfl : i1 = 1 := by omega
  obtain rfl : i2 = 2 := by omega
  obtain rfl : i3 = 3 := by omega
  match ks, hl with
  | [a, b, c, d], _ =>
    simp at h0 h1 h2 h3
    subst h0 h1 h2 h3
    rfl

theorem keysOK_nil : KeysOK [] := ⟨(fun s h => by cases h), (fun s h => by cases h), List.Pairwise.nil, by decide⟩
end Go.Proofs.YtfdhgakalojahaaGreatDoor

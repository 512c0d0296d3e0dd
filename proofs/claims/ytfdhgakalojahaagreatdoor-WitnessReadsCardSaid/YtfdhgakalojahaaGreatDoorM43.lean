/- WALKS: the program's layer 30: the head of a told head. WALKS: the laws' beyond; two heads alike; trees and blocks kept. -/
import Derived.BigQuiet
import Derived.Deep.QuietTactic
import Derived.Deep.RegionHeld3
import Derived.Test.YtfdhgakalojahaaGreatDoorM42
import Derived.Test.YtfdhgakalojahaaGreatDoorM34
import Derived.Test.YtfdhgakalojahaaGreatDoorM23
import Derived.Test.YtfdhgakalojahaaGreatDoorM29
set_option linter.unusedSimpArgs false
set_option linter.unusedVariables false
set_option linter.unnecessarySimpa false
set_option linter.unusedSectionVars false
namespace Go.Proofs.YtfdhgakalojahaaGreatDoor
open Go Go.RowKit Tree

def zer35 : List Value := hdL ⟨#[]⟩ 0 z32 0
theorem info_hd35 (o : ByteArray) (n : Int) (rb : List UInt8) (t : Int) (hr : rb.length = 32) : (Tryz.prog.info? 25).map (·.size) = some (hdL o n rb t).length := by rw [hdL_length, hr]; exact info_hd

/-- the world and the blocks so far -/
structure RW (w0 w : World) (F : Nat → Prop) (tb : Nat) (v : Value) (T : Tr) (L : List (Nat × List Value × TypeId)) : Prop where
  chg : Chg w0 w []
  item0 : ItemAt w0 F T v
  lt0 : ∀ k, F k → k < w0.heap.size
  laid0 : Laid w0
  bs : Bs w L

theorem RW.item {w0 w : World} {F : Nat → Prop} {tb : Nat} {v : Value} {T : Tr} {L : List (Nat × List Value × TypeId)} (h : RW w0 w F tb v T L) : ItemAt w F T v := ItemAt.kept (h.chg.keepsF h.lt0 (by simp)) (fun _ h => h) _ _ h.item0
theorem RW.lt {w0 w : World} {F : Nat → Prop} {tb : Nat} {v : Value} {T : Tr} {L : List (Nat × List Value × TypeId)} (h : RW w0 w F tb v T L) : ∀ k, F k → k < w.heap.size := fun k hk => Nat.lt_of_lt_of_le (h.lt0 k hk) h.chg.size
theorem RW.laid {w0 w : World} {F : Nat → Prop} {tb : Nat} {v : Value} {T : Tr} {L : List (Nat × List Value × TypeId)} (h : RW w0 w F tb v T L) : Laid w := Laid.kept _ _ h.laid0 h.chg

theorem RW.kept {w0 w w' : World} {F : Nat → Prop} {tb : Nat} {v : Value} {T : Tr} {L : List (Nat × List Value × TypeId)} (h : RW w0 w F tb v T L) (hg : Chg w w' []) : RW w0 w' F tb v T L :=
  ⟨h.chg.trans hg, h.item0, h.lt0, h.laid0, h.bs.kept hg⟩

theorem RW.new {w0 w : World} {F : Nat → Prop} {tb : Nat} {v : Value} {T : Tr} {L : List (Nat × List Value × TypeId)} (h : RW w0 w F tb v T L) (cs : List Value) (ty : TypeId) : RW w0 (w.alloc (.cells cs.toArray ty)) F tb v T ((w.heap.size, cs, ty) :: L) :=
  ⟨h.chg.alloc _, h.item0, h.lt0, h.laid0, h.bs.new cs ty⟩

theorem RW.newSet {w0 w w' : World} {F : Nat → Prop} {tb : Nat} {v : Value} {T : Tr} {L : List (Nat × List Value × TypeId)} {cs : List Value} {ty : TypeId} {ob : Obj} (h : RW w0 w F tb v T L) (hB : Blk w' w.heap.size cs ty) (hg : Chg (w.alloc ob) w' [w.heap.size]) :
    RW w0 w' F tb v T ((w.heap.size, cs, ty) :: L) :=
  ⟨(h.chg.alloc ob).fresh hg (by have := h.chg.size; simp; omega), h.item0, h.lt0, h.laid0, fun p hp => by
    rcases List.mem_cons.1 hp with rfl | hp
    · exact hB
    · exact ((h.bs p hp).alloc ob).kept hg (by have := (h.bs p hp).lt; simp; omega)⟩

theorem RW.swap {w0 w : World} {F : Nat → Prop} {tb : Nat} {v : Value} {T : Tr} {a b : Nat × List Value × TypeId} {L : List (Nat × List Value × TypeId)} (h : RW w0 w F tb v T (a :: b :: L)) : RW w0 w F tb v T (b :: a :: L) :=
  ⟨h.chg, h.item0, h.lt0, h.laid0, fun p hp => h.bs p (by simp only [List.mem_cons] at hp ⊢; rcases hp with h | h | h <;> simp [h])⟩

theorem RW.set {w0 w : World} {F : Nat → Prop} {tb : Nat} {v : Value} {T : Tr} {L : List (Nat × List Value × TypeId)} {H : Nat} {cs : List Value} {ty : TypeId} (h : RW w0 w F tb v T ((H, cs, ty) :: L)) (hH : w0.heap.size ≤ H) (hd : ∀ p ∈ L, p.1 ≠ H) (j : Nat) (u : Value) :
    RW w0 (w.setCell ⟨H, j, none⟩ u) F tb v T ((H, cs.set j u, ty) :: L) :=
  ⟨h.chg.setCell _ _ (by simp; omega), h.item0, h.lt0, h.laid0, fun p hp => by
    rcases List.mem_cons.1 hp with rfl | hp
    · exact (h.bs _ (List.Mem.head _)).set j u
    · exact (h.bs p (List.mem_cons_of_mem _ hp)).set_other _ _ (fun e => hd p hp e.symm)⟩

theorem RW.setD {w0 w : World} {F : Nat → Prop} {tb : Nat} {v : Value} {T : Tr} {L : List (Nat × List Value × TypeId)} {H : Nat} {cs : List Value} {ty : TypeId} (h : RW w0 w F tb v T ((H, cs, ty) :: L)) (hH : w0.heap.size ≤ H) (hd : ∀ p ∈ L, p.1 ≠ H) (o : Nat) (vs : List Value) :
    RW w0 (w.setCells H o vs) F tb v T ((H, setL cs o vs, ty) :: L) :=
  ⟨h.chg.fresh (Chg.setCells vs w H o) (by simp; omega), h.item0, h.lt0, h.laid0, fun p hp => by
    rcases List.mem_cons.1 hp with rfl | hp
    · exact Blk.setCells vs (h.bs _ (List.Mem.head _)) o
    · exact (h.bs p (List.mem_cons_of_mem _ hp)).kept (Chg.setCells vs w H o) (by simp; exact hd p hp)⟩

def ReadYes (o : ByteArray) (n t : Int) (rb : List UInt8) (w : World) (e : Ending) (w' : World) : Prop := e = .returned (.tuple #[.agg (hdL o n rb t).toArray, .nilIface]) ∧ Chg w w' []

set_option maxRecDepth 200000 in
set_option maxHeartbeats 32000000 in
theorem wit_Read_head (F : Nat → Prop) (tb : Nat) (o : ByteArray) (n t : Nat) (rb : List UInt8) (hr : rb.length = 32) (w : World) (hl : Laid w) (hm : mayB (originB o) n t (rb == noD) = true) (hT : TreeAt w F tb (headT o (hexS (dgB rb)) n t)) (hF : ∀ k, F k → k < w.heap.size) :
    Calls Tryz.prog 9 #[.pointer (some ⟨tb, 0, none⟩)] w (ReadYes o n t rb w) := by
  obtain ⟨v, hc0, hit0, htb⟩ := hT
  obtain ⟨ti, tx, rfl⟩ := hit0.iface
  obtain ⟨w0, hw0⟩ : ∃ x, x = w.alloc (.cells zer35.toArray 25) := ⟨_, rfl⟩
  have HR0 : Hid (RW w w0 F tb (.iface ti tx) (headT o (hexS (dgB rb)) n t) [(w.heap.size, zer35, 25)]) := by
    rw [hw0]
    exact Lib.hid (RW.new (L := []) ⟨Chg.refl _ _, hit0, hF, hl, (fun p hp => by cases hp)⟩ zer35 _)
  have HW := Lib.hid hw0
  have hc : w0.cell? ⟨tb, 0, none⟩ = some (.iface ti tx) := HR0.out.chg.keeps hc0
  have htb0 : tb < w0.heap.size := Nat.lt_of_lt_of_le htb HR0.out.chg.size
  clear hw0 hc0 hit0 htb hF hl
  go_enter Tryz.func9, Tryz.ntmps9
  go_wp2_with fail
  change Calls _ _ _ (w.alloc (.cells zer35.toArray 25)) _
  rw [← HW.out]
  refine (tree_Root F tb (.iface ti tx) w0 hc ⟨ti, tx, rfl⟩ htb0).mono ?_
  rintro e w1 ⟨rfl, hg1⟩
  have HR1 := Lib.hid ((HR0.out.kept hg1).new [.iface ti tx] 74)
  obtain ⟨B4, hB4⟩ : ∃ B, B = w1.heap.size := ⟨_, rfl⟩
  rw [← hB4] at HR1
  clear hg1 HR0 hc htb0 HW
  obtain ⟨w2, hw2⟩ : ∃ x, x = w1.alloc (.cells #[.iface ti tx] 74) := ⟨_, rfl⟩
  have HW2 := Lib.hid hw2
  have HR2 : Hid (RW w w2 F tb (.iface ti tx) (headT o (hexS (dgB rb)) n t) [(B4, [.iface ti tx], 74), (w.heap.size, zer35, 25)]) := by rw [hw2]; exact HR1
  have q4 : w2.cell? ⟨B4, 0, none⟩ = some (.iface ti tx) := (HR2.out.bs _ (List.Mem.head _)).cell 0
  clear hw2 HR1
  go_upto_region 4 with (fail)
  rw [← HW2.out, ← hB4]
  clear HW2 hB4 w1
  go_upto_region 5 with (first | (go_at_call 26; refine (find_head F (.text o) (.text (hexS (dgB rb))) (.num (Fl.wd n)) (.num (Fl.wd t)) (.iface ti tx) 0 kO (.text o) rfl rfl _ HR2.out.item HR2.out.lt).mono ?_; rintro e wx ⟨x, rfl, hgx, hix⟩; obtain rfl : x = .iface 120 (.string o) := (by simp only [ItemAt] at hix; exact hix); have HRX := Lib.hid (HR2.out.kept hgx); clear hgx hix q4))
  obtain ⟨B5, hB5⟩ : ∃ B, B = wx.heap.size := ⟨_, rfl⟩
  obtain ⟨w3, hw⟩ : ∃ y, y = wx.alloc (.cells #[.iface 120 (.string o)] 74) := ⟨_, rfl⟩
  have HR3 : Hid (RW w w3 F tb (.iface ti tx) (headT o (hexS (dgB rb)) n t) [(B5, [.iface 120 (.string o)], 74), (B4, [.iface ti tx], 74), (w.heap.size, zer35, 25)]) := by rw [hw, hB5]; exact Lib.hid (HRX.out.new _ _)
  have q4 : w3.cell? ⟨B4, 0, none⟩ = some (.iface ti tx) := (HR3.out.bs _ (List.Mem.tail _ (List.Mem.head _))).cell 0
  rw [← hw, ← hB5]
  clear hw hB5 HRX HR2
  clear wx
  go_upto_region 6 with (first | (go_at_call 26; refine (find_head F (.text o) (.text (hexS (dgB rb))) (.num (Fl.wd n)) (.num (Fl.wd t)) (.iface ti tx) 1 kR (.text (hexS (dgB rb))) rfl rfl _ HR3.out.item HR3.out.lt).mono ?_; rintro e wx ⟨x, rfl, hgx, hix⟩; obtain rfl : x = .iface 120 (.string (hexS (dgB rb))) := (by simp only [ItemAt] at hix; exact hix); have HRX := Lib.hid (HR3.out.kept hgx); clear hgx hix q4))
  obtain ⟨B7, hB7⟩ : ∃ B, B = wx.heap.size := ⟨_, rfl⟩
  obtain ⟨w4, hw⟩ : ∃ y, y = wx.alloc (.cells #[.iface 120 (.string (hexS (dgB rb)))] 74) := ⟨_, rfl⟩
  have HR4 : Hid (RW w w4 F tb (.iface ti tx) (headT o (hexS (dgB rb)) n t) [(B7, [.iface 120 (.string (hexS (dgB rb)))], 74), (B5, [.iface 120 (.string o)], 74), (B4, [.iface ti tx], 74), (w.heap.size, zer35, 25)]) := by rw [hw, hB7]; exact Lib.hid (HRX.out.new _ _)
  have q4 : w4.cell? ⟨B4, 0, none⟩ = some (.iface ti tx) := (HR4.out.bs _ (List.Mem.tail _ (List.Mem.tail _ (List.Mem.head _)))).cell 0
  rw [← hw, ← hB7]
  clear hw hB7 HRX HR3
  clear wx
  go_upto_region 7 with (first | (go_at_call 26; refine (find_head F (.text o) (.text (hexS (dgB rb))) (.num (Fl.wd n)) (.num (Fl.wd t)) (.iface ti tx) 2 kS (.num (Fl.wd n)) rfl rfl _ HR4.out.item HR4.out.lt).mono ?_; rintro e wx ⟨x, rfl, hgx, hix⟩; obtain rfl : x = .iface 146 (.float .f64 (Fl.wd n)) := (by simp only [ItemAt] at hix; exact hix); have HRX := Lib.hid (HR4.out.kept hgx); clear hgx hix q4))
  obtain ⟨B9, hB9⟩ : ∃ B, B = wx.heap.size := ⟨_, rfl⟩
  obtain ⟨w5, hw⟩ : ∃ y, y = wx.alloc (.cells #[.iface 146 (.float .f64 (Fl.wd n))] 74) := ⟨_, rfl⟩
  have HR5 : Hid (RW w w5 F tb (.iface ti tx) (headT o (hexS (dgB rb)) n t) [(B9, [.iface 146 (.float .f64 (Fl.wd n))], 74), (B7, [.iface 120 (.string (hexS (dgB rb)))], 74), (B5, [.iface 120 (.string o)], 74), (B4, [.iface ti tx], 74), (w.heap.size, zer35, 25)]) := by rw [hw, hB9]; exact Lib.hid (HRX.out.new _ _)
  have q4 : w5.cell? ⟨B4, 0, none⟩ = some (.iface ti tx) := (HR5.out.bs _ (List.Mem.tail _ (List.Mem.tail _ (List.Mem.tail _ (List.Mem.head _))))).cell 0
  rw [← hw, ← hB9]
  clear hw hB9 HRX HR4
  clear wx
  go_upto_region 8 with (first | (go_at_call 26; refine (find_head F (.text o) (.text (hexS (dgB rb))) (.num (Fl.wd n)) (.num (Fl.wd t)) (.iface ti tx) 3 kT (.num (Fl.wd t)) rfl rfl _ HR5.out.item HR5.out.lt).mono ?_; rintro e wx ⟨x, rfl, hgx, hix⟩; obtain rfl : x = .iface 146 (.float .f64 (Fl.wd t)) := (by simp only [ItemAt] at hix; exact hix); have HRX := Lib.hid (HR5.out.kept hgx); clear hgx hix q4))
  obtain ⟨B11, hB11⟩ : ∃ B, B = wx.heap.size := ⟨_, rfl⟩
  obtain ⟨w6, hw⟩ : ∃ y, y = wx.alloc (.cells #[.iface 146 (.float .f64 (Fl.wd t))] 74) := ⟨_, rfl⟩
  have HR6 : Hid (RW w w6 F tb (.iface ti tx) (headT o (hexS (dgB rb)) n t) [(B11, [.iface 146 (.float .f64 (Fl.wd t))], 74), (B9, [.iface 146 (.float .f64 (Fl.wd n))], 74), (B7, [.iface 120 (.string (hexS (dgB rb)))], 74), (B5, [.iface 120 (.string o)], 74), (B4, [.iface ti tx], 74), (w.heap.size, zer35, 25)]) := by rw [hw, hB11]; exact Lib.hid (HRX.out.new _ _)
  have q4 : w6.cell? ⟨B4, 0, none⟩ = some (.iface ti tx) := (HR6.out.bs _ (List.Mem.tail _ (List.Mem.tail _ (List.Mem.tail _ (List.Mem.tail _ (List.Mem.head _)))))).cell 0
  rw [← hw, ← hB11]
  clear hw hB11 HRX HR5
  clear wx
  have hmm : originB o = true ∧ n < 9007199254740992 ∧ t < 9007199254740992 ∧ (n = 0 → (rb == noD) = true) := by
    unfold mayB at hm
    simp only [Bool.and_eq_true, Bool.or_eq_true, decide_eq_true_eq] at hm
    refine ⟨hm.1.1.1.1.1, by omega, by omega, fun h => ?_⟩
    rcases hm.2 with h2 | h2
    · omega
    · exact h2
  obtain ⟨hob, hnb, htb', hn0⟩ := hmm
  have hos : o.size ≤ 2147483648 := by
    unfold originB at hob
    simp only [Bool.and_eq_true, decide_eq_true_eq] at hob
    omega
  have HOB := Lib.hid hob
  have HN0 := Lib.hid hn0
  clear hob hn0 hm
  have hlen4 : (itemsT (headT o (hexS (dgB rb)) n t)).length = 4 := rfl
  have HL4 := Lib.hid hlen4
  clear hlen4
  go_upto_region 10 with (first | (go_at_call 27; refine (ref_Len F (headT o (hexS (dgB rb)) n t) _ _ HR6.out.item HR6.out.lt).mono ?_; rintro e wx ⟨rfl, hgx⟩; have HRX := Lib.hid (HR6.out.kept hgx); rw [HL4.out]; clear hgx q4))
  have hdH : ∀ p ∈ ([(B11, [.iface 146 (.float .f64 (Fl.wd t))], 74), (B9, [.iface 146 (.float .f64 (Fl.wd n))], 74), (B7, [.iface 120 (.string (hexS (dgB rb)))], 74), (B5, [.iface 120 (.string o)], 74), (B4, [.iface ti tx], 74), (w.heap.size, zer35, 25)] : List (Nat × List Value × TypeId)), p.1 ≠ wx.heap.size := fun p hp => Nat.ne_of_lt (HRX.out.bs p hp).lt
  have hHw : w.heap.size ≤ wx.heap.size := HRX.out.chg.size
  obtain ⟨H, hH⟩ : ∃ H, H = wx.heap.size := ⟨_, rfl⟩
  obtain ⟨w7, hw7⟩ : ∃ y, y = wx.alloc (.cells zer35.toArray 25) := ⟨_, rfl⟩
  have HR7 : Hid (RW w w7 F tb (.iface ti tx) (headT o (hexS (dgB rb)) n t) [(H, zer35, 25), (B11, [.iface 146 (.float .f64 (Fl.wd t))], 74), (B9, [.iface 146 (.float .f64 (Fl.wd n))], 74), (B7, [.iface 120 (.string (hexS (dgB rb)))], 74), (B5, [.iface 120 (.string o)], 74), (B4, [.iface ti tx], 74), (w.heap.size, zer35, 25)]) := by rw [hw7, hH]; exact Lib.hid (HRX.out.new _ _)
  rw [← hH] at hdH hHw
  have HDH := Lib.hid hdH
  have HW7 := Lib.hid hw7
  have q5 : w7.cell? ⟨B5, 0, none⟩ = some (.iface 120 (.string o)) := (HR7.out.bs _ (List.Mem.tail _ (List.Mem.tail _ (List.Mem.tail _ (List.Mem.tail _ (List.Mem.head _)))))).cell 0
  clear hdH hw7 HRX HR6
  go_upto_region 12 with (fail)
  change Code.wp _ _ _ _ (wx.alloc (.cells zer35.toArray 25))
  rw [← HW7.out, ← hH]
  clear hH HW7
  clear wx
  have hT1 : Hid (∀ (s : ByteArray) wz, Calls Tryz.prog 29 #[.agg #[.iface 120 (.string s)]] wz fun e w' => e = .returned (.tuple #[.string s, .bool true]) ∧ Chg wz w' []) := Lib.hid fun s wz => ref_Text (fun _ => False) (.text s) _ wz (by simp only [ItemAt])
  have hCT : Hid (∀ (k : Nat), k < 9007199254740992 → ∀ wz, Calls Tryz.prog 31 #[.agg #[.iface 146 (.float .f64 (Fl.wd k))]] wz fun e w' => e = .returned (.tuple #[.int .i64 k, .bool true]) ∧ Chg wz w' []) := Lib.hid fun k hk wz => wit_count_wd (fun _ => False) k hk _ wz (by simp only [ItemAt]) (fun _ h => h.elim)
  go_upto_region 13 with (first | (go_at_call 29; refine (hT1.out o _).mono ?_; rintro e wx ⟨rfl, hgx⟩; have HRX := Lib.hid (HR7.out.kept hgx); have hfz : ∀ j, wx.frozen? ⟨H, j, none⟩ = false := (fun j => (HRX.out.bs _ (List.Mem.head _)).frozen j); have hc0 : wx.cell? ⟨H, 0, none⟩ = some (.string ⟨#[]⟩) := (HRX.out.bs _ (List.Mem.head _)).cell 0; have hlH := (HRX.out.bs _ (List.Mem.head _)).lt; clear hgx q5))
  obtain ⟨w8, hw8⟩ : ∃ y, y = wx.setCell ⟨H, 0, none⟩ (.string o) := ⟨_, rfl⟩
  have HR8 : Hid (RW w w8 F tb (.iface ti tx) (headT o (hexS (dgB rb)) n t) [(H, hdL o 0 z32 0, 25), (B11, [.iface 146 (.float .f64 (Fl.wd t))], 74), (B9, [.iface 146 (.float .f64 (Fl.wd n))], 74), (B7, [.iface 120 (.string (hexS (dgB rb)))], 74), (B5, [.iface 120 (.string o)], 74), (B4, [.iface ti tx], 74), (w.heap.size, zer35, 25)]) := by rw [hw8]; exact Lib.hid (HRX.out.set hHw HDH.out 0 (.string o))
  rw [← hw8]
  clear hw8 HRX hfz hc0 hlH HR7
  clear wx
  have hTD : Hid (∀ wz, Calls Tryz.prog 32 #[.string (hexS (dgB rb))] wz fun e w' => e = .returned (.tuple #[.agg (rb.map byV).toArray, .nilIface]) ∧ Chg wz w' []) := Lib.hid fun wz => (base_ToDigest (hexS (dgB rb)) (by rw [hexS_size, dgB_size, hr]; omega) wz).mono (by
    rintro e w' ⟨hg, ⟨_, rfl⟩ | ⟨h, _⟩⟩
    · rw [unhexV_dg rb hr]; exact ⟨rfl, hg⟩
    · rw [digOK_dg rb hr] at h; cases h)
  have hOR : Hid (∀ wz, Calls Tryz.prog 30 #[.string o] wz fun e w' => e = .returned (.bool true) ∧ Chg wz w' []) := Lib.hid fun wz => by rw [← HOB.out]; exact wit_origin o wz hos
  have hrb1 : (rb.map byV).length = 32 := by rw [List.length_map, hr]
  have HRB := Lib.hid hrb1
  have HR := Lib.hid hr
  have qH0 : w8.cell? ⟨H, 0, none⟩ = some (.string o) := (HR8.out.bs _ (List.Mem.head _)).cell 0
  clear hrb1 hr
  go_upto_region 18 with (first
    | (go_at_call 30; refine (hOR.out _).mono ?_; rintro e w9 ⟨rfl, hgx⟩; have HR9 := Lib.hid (HR8.out.kept hgx); have qx : w9.cell? ⟨B9, 0, none⟩ = some (.iface 146 (.float .f64 (Fl.wd n))) := (HR9.out.bs _ (List.Mem.tail _ (List.Mem.tail _ (List.Mem.head _)))).cell 0; clear hgx qH0)
    | (go_at_call 31; refine (hCT.out n hnb _).mono ?_; rintro e w10 ⟨rfl, hgx⟩; have HR10 := Lib.hid (HR9.out.kept hgx); clear qx; have qx : w10.cell? ⟨B7, 0, none⟩ = some (.iface 120 (.string (hexS (dgB rb)))) := (HR10.out.bs _ (List.Mem.tail _ (List.Mem.tail _ (List.Mem.tail _ (List.Mem.head _))))).cell 0; clear hgx)
    | (go_at_call 29; refine (hT1.out (hexS (dgB rb)) _).mono ?_; rintro e w11 ⟨rfl, hgx⟩; have HR11 := Lib.hid (HR10.out.kept hgx); clear hgx qx)
    | (go_at_call 32; refine (hTD.out _).mono ?_; rintro e w12 ⟨rfl, hgx⟩; have HR12 := Lib.hid (HR11.out.kept hgx); clear hgx)
    | (refine wpList_store_blk rfl _ _ _ rfl w12.heap.size (rb.map byV) rfl rfl 23 zer32 (Blk.new w12 zer32 _) (by rw [info_dg5, HRB.out]) (by rw [HRB.out]; rfl) (cell_one rb) ?_; intro w13 hz13 hB13 hg13))
  have hHD : H < w12.heap.size := (HR12.out.bs _ (List.Mem.head _)).lt
  obtain ⟨D, hD⟩ : ∃ D, D = w12.heap.size := ⟨_, rfl⟩
  have HR13 : Hid (RW w w13 F tb (.iface ti tx) (headT o (hexS (dgB rb)) n t) [(H, hdL o 0 z32 0, 25), (D, rb.map byV, 23), (B11, [.iface 146 (.float .f64 (Fl.wd t))], 74), (B9, [.iface 146 (.float .f64 (Fl.wd n))], 74), (B7, [.iface 120 (.string (hexS (dgB rb)))], 74), (B5, [.iface 120 (.string o)], 74), (B4, [.iface ti tx], 74), (w.heap.size, zer35, 25)]) := by rw [hD]; exact Lib.hid (HR12.out.newSet hB13 hg13).swap
  rw [← hD] at hHD ⊢
  have HDD : Hid (∀ p ∈ ([(D, rb.map byV, 23), (B11, [.iface 146 (.float .f64 (Fl.wd t))], 74), (B9, [.iface 146 (.float .f64 (Fl.wd n))], 74), (B7, [.iface 120 (.string (hexS (dgB rb)))], 74), (B5, [.iface 120 (.string o)], 74), (B4, [.iface ti tx], 74), (w.heap.size, zer35, 25)] : List (Nat × List Value × TypeId)), p.1 ≠ H) := Lib.hid (fun p hp => by
    rcases List.mem_cons.1 hp with rfl | hp
    · exact Nat.ne_of_gt hHD
    · exact HDH.out p hp)
  have qx : w13.cell? ⟨B11, 0, none⟩ = some (.iface 146 (.float .f64 (Fl.wd t))) := (HR13.out.bs _ (List.Mem.tail _ (List.Mem.tail _ (List.Mem.head _)))).cell 0
  clear hD hB13 hg13 hz13 HR12 HR11 HR10 HR9 HR8
  clear w12 w11 w10 w9 w8
  have hRG : w13.rangeAt D 0 (rb.map byV) := fun j v hv => by rw [Nat.zero_add]; exact ((HR13.out.bs _ (List.Mem.tail _ (List.Mem.head _))).cell j).trans hv
  by_cases hn0 : n = 0
  · have d0 : ((n : Int) == 0) = true := by simp; omega
    have hrd : (rb == noD) = true := HN0.out hn0
    have hE : ∀ w', (binOp .neq 23 (.agg (rb.map byV).toArray) (.agg (noD.map byV).toArray)).run Tryz.prog w' = .ok (.bool false) w' := fun w' => by
      rw [run_neq_bytes w' _ 5 32 Tryz.underlying23 Tryz.underlying5 size_u8 rb noD HR.out noD_length, hrd]; rfl
    have hu := Tryz.underlying23
    have hi : (Tryz.prog.info? 23).map (·.size) = some (rb.map byV).length := by rw [HRB.out]; exact info_dg5
    have HLD := Lib.hid HR13.out.laid
    clear hn0 hrd
    go_region_held3 (fun w' => w'.rangeAt D 0 (rb.map byV)) (first | exact hRG | exact (fun j v hv => HG14.out.keeps (hRG j v hv)))
      ((go_at_call 33; refine (book_Empty _ (by exact Laid.kept _ _ HLD.out (by (repeat (first | exact Chg.refl _ _ | with_reducible refine Chg.drewN ?_ _ | with_reducible refine Chg.drew ?_ | with_reducible refine Chg.alloc ?_ _ | with_reducible refine Chg.setCell ?_ _ _ (by simp) | with_reducible refine Chg.setCell ?_ _ _ (by simp; omega)))))).mono ?_; rintro e w14 ⟨rfl, hgx⟩; have HG14 := Lib.hid hgx; have HR14 := Lib.hid ((HR13.out.kept ((Chg.refl w13 []).drew)).kept hgx); have qy : w14.cell? ⟨B11, 0, none⟩ = some (.iface 146 (.float .f64 (Fl.wd t))) := (HR14.out.bs _ (List.Mem.tail _ (List.Mem.tail _ (List.Mem.head _)))).cell 0; clear hgx))
    all_goals
      clear qx hRG hE hu hi
      have qx := qy
      go_upto_region 23 with (first
        | (go_at_call 31; refine (hCT.out t htb' _).mono ?_; rintro e w15 ⟨rfl, hgx⟩; have HR15 := Lib.hid (HR14.out.kept hgx); have hfz : ∀ j, w15.frozen? ⟨H, j, none⟩ = false := (fun j => (HR15.out.bs _ (List.Mem.head _)).frozen j); have hc34 : w15.cell? ⟨H, 34, none⟩ = some (.int .i64 0) := ((HR15.out.bs _ (List.Mem.head _)).cell 34).trans (hdL_34 _ _ _ _ rfl); have hlH := (HR15.out.bs _ (List.Mem.head _)).lt; clear hgx qx))
      obtain ⟨w16, hw16⟩ : ∃ y, y = w15.setCell ⟨H, 34, none⟩ (.int .i64 t) := ⟨_, rfl⟩
      have HR16 : Hid (RW w w16 F tb (.iface ti tx) (headT o (hexS (dgB rb)) n t)  [(H, hdL o 0 z32 t, 25), (D, rb.map byV, 23), (B11, [.iface 146 (.float .f64 (Fl.wd t))], 74), (B9, [.iface 146 (.float .f64 (Fl.wd n))], 74), (B7, [.iface 120 (.string (hexS (dgB rb)))], 74), (B5, [.iface 120 (.string o)], 74), (B4, [.iface ti tx], 74), (w.heap.size, zer35, 25)]) := by rw [hw16, ← hdL_set34 o 0 z32 rfl 0 t]; exact Lib.hid (HR15.out.set hHw HDD.out 34 (.int .i64 t))
      rw [← hw16]
      clear hw16 hfz hc34 hlH
      obtain ⟨w17, hw17⟩ : ∃ y, y = w16.setCells H 2 (rb.map byV).toArray.toList := ⟨_, rfl⟩
      have HR17 : Hid (RW w w17 F tb (.iface ti tx) (headT o (hexS (dgB rb)) n t)  [(H, hdL o 0 rb t, 25), (D, rb.map byV, 23), (B11, [.iface 146 (.float .f64 (Fl.wd t))], 74), (B9, [.iface 146 (.float .f64 (Fl.wd n))], 74), (B7, [.iface 120 (.string (hexS (dgB rb)))], 74), (B5, [.iface 120 (.string o)], 74), (B4, [.iface ti tx], 74), (w.heap.size, zer35, 25)]) := by rw [hw17, ← hdL_setD o 0 z32 rb rfl HR.out t]; exact Lib.hid (HR16.out.setD hHw HDD.out 2 (rb.map byV))
      have HW17 := Lib.hid hw17
      have hfz : ∀ j, w17.frozen? ⟨H, j, none⟩ = false := fun j => (HR17.out.bs _ (List.Mem.head _)).frozen j
      have hc1 : w17.cell? ⟨H, 1, none⟩ = some (.int .i64 0) := (HR17.out.bs _ (List.Mem.head _)).cell 1
      have hlH := (HR17.out.bs _ (List.Mem.head _)).lt
      have HTH : Hid (w16.there H 2 32) := Lib.hid (fun j hj => ⟨by rw [(HR16.out.bs _ (List.Mem.head _)).cell, List.getElem?_eq_getElem (by rw [hdL_length]; show 2 + j < 35; omega)]; rfl, (HR16.out.bs _ (List.Mem.head _)).frozen _⟩)
      have HIR : Hid ((Tryz.prog.info? 23).map (·.size) = some (rb.map byV).toArray.size) := Lib.hid (by rw [info_dg5]; simp [HR.out])
      clear hw17
      go_upto_region 26 with (first
        | (refine wpList_load_blk rfl _ _ rfl D rfl 23 (rb.map byV) (HR16.out.bs _ (List.Mem.tail _ (List.Mem.head _))) _ Tryz.underlying23 rfl (by rw [info_dg5, HRB.out]) ?_)
        | (refine wpList_store_mid rfl _ _ _ rfl H 2 (rb.map byV).toArray rfl rfl (by have h := HTH.out; rwa [show (rb.map byV).toArray.size = 32 from by simp [HR.out]]) HIR.out (all_oneCell_toArray (cell_one rb)) ?_; rw [← HW17.out]))
      obtain ⟨w18, hw18⟩ : ∃ y, y = w17.setCell ⟨H, 1, none⟩ (.int .i64 n) := ⟨_, rfl⟩
      have HR18 : Hid (RW w w18 F tb (.iface ti tx) (headT o (hexS (dgB rb)) n t)  [(H, hdL o n rb t, 25), (D, rb.map byV, 23), (B11, [.iface 146 (.float .f64 (Fl.wd t))], 74), (B9, [.iface 146 (.float .f64 (Fl.wd n))], 74), (B7, [.iface 120 (.string (hexS (dgB rb)))], 74), (B5, [.iface 120 (.string o)], 74), (B4, [.iface ti tx], 74), (w.heap.size, zer35, 25)]) := by rw [hw18, ← hdL_set1 o 0 n rb t]; exact Lib.hid (HR17.out.set hHw HDD.out 1 (.int .i64 n))
      rw [← hw18]
      clear hw18 hfz hc1 hlH
      go_wp2_with (first
        | (refine wpList_load_blk rfl _ _ rfl H rfl 25 (hdL o n rb t) (HR18.out.bs _ (List.Mem.head _)) _ Tryz.underlying25 rfl (info_hd35 _ _ _ _ HR.out) ?_)
        | (refine wpList_store_blk rfl _ _ _ rfl w.heap.size (hdL o n rb t) rfl rfl 25 zer35 (HR18.out.bs _ (List.Mem.tail _ (List.Mem.tail _ (List.Mem.tail _ (List.Mem.tail _ (List.Mem.tail _ (List.Mem.tail _ (List.Mem.tail _ (List.Mem.head _))))))))) (info_hd35 _ _ _ _ HR.out) (by rw [hdL_length, HR.out]; rfl) (hdL_one _ _ _ _) ?_; intro w19 hz19 hB19 hg19; have HB19 := Lib.hid hB19; have HG19 := Lib.hid hg19; clear hB19 hg19 hz19))
      exact bodyPost_ret (results_blk_tmp rfl _ _ w.heap.size 25 (hdL o n rb t) _ rfl HB19.out Tryz.underlying25 rfl (info_hd35 _ _ _ _ HR.out)) rfl ⟨rfl, HR18.out.chg.fresh HG19.out (by simp)⟩
  · have d0 : ((n : Int) == 0) = false := by simp; omega
    clear hn0
    go_quiet (fail)
    go_upto_region 23 with (first
      | (go_at_call 31; refine (hCT.out t htb' _).mono ?_; rintro e w15 ⟨rfl, hgx⟩; have HR15 := Lib.hid ((HR13.out.kept ((Chg.refl w13 []).drewN _)).kept hgx); have hfz : ∀ j, w15.frozen? ⟨H, j, none⟩ = false := (fun j => (HR15.out.bs _ (List.Mem.head _)).frozen j); have hc34 : w15.cell? ⟨H, 34, none⟩ = some (.int .i64 0) := ((HR15.out.bs _ (List.Mem.head _)).cell 34).trans (hdL_34 _ _ _ _ rfl); have hlH := (HR15.out.bs _ (List.Mem.head _)).lt; clear hgx qx))
    obtain ⟨w16, hw16⟩ : ∃ y, y = w15.setCell ⟨H, 34, none⟩ (.int .i64 t) := ⟨_, rfl⟩
    have HR16 : Hid (RW w w16 F tb (.iface ti tx) (headT o (hexS (dgB rb)) n t)  [(H, hdL o 0 z32 t, 25), (D, rb.map byV, 23), (B11, [.iface 146 (.float .f64 (Fl.wd t))], 74), (B9, [.iface 146 (.float .f64 (Fl.wd n))], 74), (B7, [.iface 120 (.string (hexS (dgB rb)))], 74), (B5, [.iface 120 (.string o)], 74), (B4, [.iface ti tx], 74), (w.heap.size, zer35, 25)]) := by rw [hw16, ← hdL_set34 o 0 z32 rfl 0 t]; exact Lib.hid (HR15.out.set hHw HDD.out 34 (.int .i64 t))
    rw [← hw16]
    clear hw16 hfz hc34 hlH
    obtain ⟨w17, hw17⟩ : ∃ y, y = w16.setCells H 2 (rb.map byV).toArray.toList := ⟨_, rfl⟩
    have HR17 : Hid (RW w w17 F tb (.iface ti tx) (headT o (hexS (dgB rb)) n t)  [(H, hdL o 0 rb t, 25), (D, rb.map byV, 23), (B11, [.iface 146 (.float .f64 (Fl.wd t))], 74), (B9, [.iface 146 (.float .f64 (Fl.wd n))], 74), (B7, [.iface 120 (.string (hexS (dgB rb)))], 74), (B5, [.iface 120 (.string o)], 74), (B4, [.iface ti tx], 74), (w.heap.size, zer35, 25)]) := by rw [hw17, ← hdL_setD o 0 z32 rb rfl HR.out t]; exact Lib.hid (HR16.out.setD hHw HDD.out 2 (rb.map byV))
    have HW17 := Lib.hid hw17
    have hfz : ∀ j, w17.frozen? ⟨H, j, none⟩ = false := fun j => (HR17.out.bs _ (List.Mem.head _)).frozen j
    have hc1 : w17.cell? ⟨H, 1, none⟩ = some (.int .i64 0) := (HR17.out.bs _ (List.Mem.head _)).cell 1
    have hlH := (HR17.out.bs _ (List.Mem.head _)).lt
    have HTH : Hid (w16.there H 2 32) := Lib.hid (fun j hj => ⟨by rw [(HR16.out.bs _ (List.Mem.head _)).cell, List.getElem?_eq_getElem (by rw [hdL_length]; show 2 + j < 35; omega)]; rfl, (HR16.out.bs _ (List.Mem.head _)).frozen _⟩)
    have HIR : Hid ((Tryz.prog.info? 23).map (·.size) = some (rb.map byV).toArray.size) := Lib.hid (by rw [info_dg5]; simp [HR.out])
    clear hw17
    go_upto_region 26 with (first
      | (refine wpList_load_blk rfl _ _ rfl D rfl 23 (rb.map byV) (HR16.out.bs _ (List.Mem.tail _ (List.Mem.head _))) _ Tryz.underlying23 rfl (by rw [info_dg5, HRB.out]) ?_)
      | (refine wpList_store_mid rfl _ _ _ rfl H 2 (rb.map byV).toArray rfl rfl (by have h := HTH.out; rwa [show (rb.map byV).toArray.size = 32 from by simp [HR.out]]) HIR.out (all_oneCell_toArray (cell_one rb)) ?_; rw [← HW17.out]))
    obtain ⟨w18, hw18⟩ : ∃ y, y = w17.setCell ⟨H, 1, none⟩ (.int .i64 n) := ⟨_, rfl⟩
    have HR18 : Hid (RW w w18 F tb (.iface ti tx) (headT o (hexS (dgB rb)) n t)  [(H, hdL o n rb t, 25), (D, rb.map byV, 23), (B11, [.iface 146 (.float .f64 (Fl.wd t))], 74), (B9, [.iface 146 (.float .f64 (Fl.wd n))], 74), (B7, [.iface 120 (.string (hexS (dgB rb)))], 74), (B5, [.iface 120 (.string o)], 74), (B4, [.iface ti tx], 74), (w.heap.size, zer35, 25)]) := by rw [hw18, ← hdL_set1 o 0 n rb t]; exact Lib.hid (HR17.out.set hHw HDD.out 1 (.int .i64 n))
    rw [← hw18]
    clear hw18 hfz hc1 hlH
    go_wp2_with (first
      | (refine wpList_load_blk rfl _ _ rfl H rfl 25 (hdL o n rb t) (HR18.out.bs _ (List.Mem.head _)) _ Tryz.underlying25 rfl (info_hd35 _ _ _ _ HR.out) ?_)
      | (refine wpList_store_blk rfl _ _ _ rfl w.heap.size (hdL o n rb t) rfl rfl 25 zer35 (HR18.out.bs _ (List.Mem.tail _ (List.Mem.tail _ (List.Mem.tail _ (List.Mem.tail _ (List.Mem.tail _ (List.Mem.tail _ (List.Mem.tail _ (List.Mem.head _))))))))) (info_hd35 _ _ _ _ HR.out) (by rw [hdL_length, HR.out]; rfl) (hdL_one _ _ _ _) ?_; intro w19 hz19 hB19 hg19; have HB19 := Lib.hid hB19; have HG19 := Lib.hid hg19; clear hB19 hg19 hz19))
    exact bodyPost_ret (results_blk_tmp rfl _ _ w.heap.size 25 (hdL o n rb t) _ rfl HB19.out Tryz.underlying25 rfl (info_hd35 _ _ _ _ HR.out)) rfl ⟨rfl, HR18.out.chg.fresh HG19.out (by simp)⟩
end Go.Proofs.YtfdhgakalojahaaGreatDoor

namespace Go.Proofs.YtfdhgakalojahaaGreatDoor
open Go Go.RowKit Tree

theorem beyond_yes (n : Nat) (hn : 2147483648 ≤ n) (w : World) : Calls Tryz.prog 5 #[.int .i64 n] w fun e w' => e = .returned (.bool true) ∧ Chg w w' [] := by
  have d1 : decide ((n : Int) < 0) = false := by simp <;> omega
  have d2 : decide ((2147483648 : Int) ≤ n) = true := by simp; omega
  go_enter Tryz.func5, Tryz.ntmps5
  go_wp2
  go_ret
  exact ⟨rfl, Chg.refl _ _⟩

theorem beyond_no (n : Nat) (hn : n < 2147483648) (w : World) : Calls Tryz.prog 5 #[.int .i64 n] w fun e w' => e = .returned (.bool false) ∧ Chg w w' [] := by
  have d1 : decide ((n : Int) < 0) = false := by simp <;> omega
  have d2 : decide ((2147483648 : Int) ≤ n) = false := by simp <;> omega
  go_enter Tryz.func5, Tryz.ntmps5
  go_wp2
  go_ret
  exact ⟨rfl, Chg.refl _ _⟩

theorem eqFields_same {P : Program} (w : World) (d : Nat) (xs : Array Value) : ∀ (fs : List Field), (∀ f ∈ fs, ∃ v, (part f.type xs f.offset).run P w = .ok v w ∧ (Op.equalIn d f.type v v).run P w = .ok true w) → (Op.eqFields d xs xs fs).run P w = .ok true w
  | [], _ => rfl
  | f :: fs, h => by
    obtain ⟨v, h1, h2⟩ := h f (by simp)
    have ih := eqFields_same w d xs fs (fun g hg => h g (by simp [hg]))
    unfold Op.eqFields
    split
    · simp only [Sem.run_bind, h1, h2, Result.andThen_ok, Bool.not_true, Bool.false_eq_true, if_false, ih]
    · exact ih

theorem head_fields : ((Tryz.prog.fieldsOf 25).toList.map fun f => (f.type, f.offset)) = [(9, 0), (3, 1), (23, 2), (3, 34)] := by kernel_rfl

theorem part_digest (cs : Array Value) (w : World) : (part 23 cs 2).run Tryz.prog w = .ok (.agg (cs.extract 2 34)) w := by kernel_rfl

theorem head_eql (o : ByteArray) (n t : Int) (rb : List UInt8) (hr : rb.length = 32) (w : World) :
    (binOp .eql 25 (.agg (hdL o n rb t).toArray) (.agg (hdL o n rb t).toArray)).run Tryz.prog w = .ok (.bool true) w := by
  rw [run_eql_struct, run_equalIn_struct w 9999 _ _ _ (by kernel_rfl) (by kernel_rfl), eqFields_same]
  · rfl
  · intro f hf
    have hm : (f.type, f.offset) ∈ ((Tryz.prog.fieldsOf 25).toList.map fun f => (f.type, f.offset)) := List.mem_map.2 ⟨f, hf, rfl⟩
    rw [head_fields] at hm
    simp only [List.mem_cons, List.mem_nil_iff, or_false, Prod.mk.injEq] at hm
    rcases hm with ⟨h1, h2⟩ | ⟨h1, h2⟩ | ⟨h1, h2⟩ | ⟨h1, h2⟩ <;> rw [h1, h2]
    · exact ⟨.string o, by simp [part, isAgg, run_underlying Tryz.underlying9, hdL], by rw [run_equalIn_string w _ _ o o Tryz.underlying9]; simp⟩
    · exact ⟨.int .i64 n, by simp [part, isAgg, run_underlying Tryz.underlying3, hdL], by rw [run_equalIn_int w _ _ _ _ n n Tryz.underlying3]; simp⟩
    · refine ⟨_, part_digest _ w, ?_⟩
      have e : (hdL o n rb t).toArray.extract 2 34 = (rb.map byV).toArray := by
        simp [hdL, hr]
      rw [e, run_equalIn_bytes w 9997 _ 5 32 Tryz.underlying23 Tryz.underlying5 size_u8 rb rb hr hr]
      simp
    · refine ⟨.int .i64 t, ?_, by rw [run_equalIn_int w _ _ _ _ t t Tryz.underlying3]; simp⟩
      have e : (hdL o n rb t).toArray[34]? = some (.int .i64 t) := by
        simp [hdL, hr]
      simp [part, isAgg, run_underlying Tryz.underlying3, e]

theorem Blk.range {w : World} {b : Nat} {cs : List Value} {T : TypeId} (h : Blk w b cs T) : w.rangeAt b 0 cs := fun j v hv => by
  rw [Nat.zero_add]; exact (h.cell j).trans hv

theorem TreeAt.kept {w w' : World} {F : Nat → Prop} {tb : Nat} {t : Tr} (h : TreeAt w F tb t) (hg : Chg w w' []) (hF : ∀ k, F k → k < w.heap.size) : TreeAt w' F tb t := by
  obtain ⟨v, h1, h2, h3⟩ := h
  exact ⟨v, hg.keeps h1, ItemAt.kept (hg.keepsF hF (by simp)) (fun _ h => h) _ _ h2, Nat.lt_of_lt_of_le h3 hg.size⟩
end Go.Proofs.YtfdhgakalojahaaGreatDoor

/- WALKS: the program's layer 3: a feeder takes bytes. WALKS: the program's layer 3: what a feeder answers. WALKS: the program's layer 3: is a text right? -/
import Derived.Deep.RegionHeld3
import Derived.StillTailTactics
import Derived.Test.YtfdhgakalojahaaGreatDoorM20
import Derived.Test.YtfdhgakalojahaaGreatDoorM03
set_option linter.unusedSimpArgs false
set_option linter.unusedVariables false
set_option linter.unnecessarySimpa false
set_option linter.unusedSectionVars false
namespace Go.Proofs.YtfdhgakalojahaaGreatDoor
open Go.RowKit

/-- a Feeder's cells -/
def FC (pl h0 h1 h2 h3 m : Nat) (wr : Bool) : List Value :=
  [.int .i64 pl, .int .u8 h0, .int .u8 h1, .int .u8 h2, .int .u8 h3, .int .i64 m, .bool wr]

theorem FC_cells {pl h0 h1 h2 h3 m : Nat} {wr : Bool} {b : Nat} {w : World} {T : TypeId} (h : Blk w b (FC pl h0 h1 h2 h3 m wr) T) :
    b < w.heap.size ∧ (∀ j, w.frozen? ⟨b, j, none⟩ = false) ∧ w.cell? ⟨b, 0, none⟩ = some (.int .i64 pl) ∧ w.cell? ⟨b, 1, none⟩ = some (.int .u8 h0) ∧ w.cell? ⟨b, 2, none⟩ = some (.int .u8 h1) ∧
    w.cell? ⟨b, 3, none⟩ = some (.int .u8 h2) ∧ w.cell? ⟨b, 4, none⟩ = some (.int .u8 h3) ∧ w.cell? ⟨b, 5, none⟩ = some (.int .i64 m) ∧ w.cell? ⟨b, 6, none⟩ = some (.bool wr) := by
  refine ⟨h.lt, fun j => h.frozen j, ?_, ?_, ?_, ?_, ?_, ?_, ?_⟩
  all_goals (rw [h.cell]; rfl)

set_option maxRecDepth 100000 in
set_option maxHeartbeats 1000000 in
theorem take_no (c pl h0 h1 h2 h3 : Nat) (wr : Bool) (b : Nat) (w : World) (hB : Blk w b (FC pl h0 h1 h2 h3 0 wr) 237) (hc : c < 256) (hw : Utf.wideN c = 0) :
    Calls Tryz.prog 137 #[.pointer (some ⟨b, 0, none⟩), .int .u8 c] w fun e w' => e = .returned (.bool false) ∧ Chg w w' [] := by
  have c5 : w.cell? ⟨b, 5, none⟩ = some (.int .i64 0) := by rw [hB.cell]; rfl
  have HW := Lib.hid hw
  have hb := hB.lt
  have HB := Lib.hid hB
  clear hw hB
  go_enter Tryz.func137, Tryz.ntmps137
  go_wp2_with (first | (go_at_call 158; refine (utf_formOf c hc _).mono ?_; rintro e w1 ⟨rfl, hg1⟩; unfold PUtf.formV; rw [HW.out]))
  go_ret
  exact ⟨rfl, hg1.alloc _⟩

set_option maxRecDepth 100000 in
set_option maxHeartbeats 1000000 in
theorem take_one (c pl h0 h1 h2 h3 : Nat) (wr : Bool) (b : Nat) (w : World) (hB : Blk w b (FC pl h0 h1 h2 h3 0 wr) 237) (hc : c < 256) (hw : Utf.wideN c = 1) :
    Calls Tryz.prog 137 #[.pointer (some ⟨b, 0, none⟩), .int .u8 c] w fun e w' => e = .returned (.bool true) ∧ Chg w w' [] := by
  have c5 : w.cell? ⟨b, 5, none⟩ = some (.int .i64 0) := by rw [hB.cell]; rfl
  have HW := Lib.hid hw
  have hb := hB.lt
  have HB := Lib.hid hB
  clear hw hB
  go_enter Tryz.func137, Tryz.ntmps137
  go_wp2_with (first | (go_at_call 158; refine (utf_formOf c hc _).mono ?_; rintro e w1 ⟨rfl, hg1⟩; unfold PUtf.formV; rw [HW.out]))
  go_ret
  exact ⟨rfl, hg1.alloc _⟩

set_option maxRecDepth 100000 in
set_option maxHeartbeats 1000000 in
theorem take_more (c pl h0 h1 h2 h3 : Nat) (wr : Bool) (b : Nat) (w : World) (hB : Blk w b (FC pl h0 h1 h2 h3 0 wr) 237) (hc : c < 256) (hw : 2 ≤ Utf.wideN c) :
    Calls Tryz.prog 137 #[.pointer (some ⟨b, 0, none⟩), .int .u8 c] w fun e w' => e = .returned (.bool true) ∧ Chg w w' [b] ∧
      Blk w' b (FC pl c h1 h2 h3 1 wr) 237 := by
  have c5 : w.cell? ⟨b, 5, none⟩ = some (.int .i64 0) := by rw [hB.cell]; rfl
  have t0 : ((Utf.wideN c : Int) == 0) = false := beq_eq_false_iff_ne.2 (by omega)
  have t1 : 1 < (Utf.wideN c : Int) := by omega
  have HW := Lib.hid hw
  have hb := hB.lt
  have HB := Lib.hid hB
  clear hw hB
  obtain ⟨n, hn⟩ : ∃ n, n = Utf.wideN c := ⟨_, rfl⟩
  have HN := Lib.hid hn
  rw [← hn] at t0 t1
  clear hn
  go_enter Tryz.func137, Tryz.ntmps137
  go_wp2_with (first | (go_at_call 158; refine (utf_formOf c hc _).mono ?_; rintro e w1 ⟨rfl, hg1⟩; unfold PUtf.formV; rw [← HN.out]; have HB1 := Lib.hid (HB.out.kept hg1 (by simp)); obtain ⟨g0, g1, g2, g3, g4, g5, g6, g7, g8⟩ := FC_cells HB1.out))
  go_ret
  exact ⟨rfl, (((hg1.none [b]).setCell _ _ (by simp)).setCell _ _ (by simp)).alloc _, ((HB1.out.set 1 _).set 5 _).alloc _⟩

def FCset (pl h0 h1 h2 h3 m n c : Nat) (wr : Bool) : List Value :=
  FC pl h0 (if m = 1 then c else h1) (if m = 2 then c else h2) (if m = 3 then c else h3) (if m + 1 = n then 0 else m + 1) wr

set_option maxRecDepth 100000 in
set_option maxHeartbeats 1000000 in
theorem take_in1 (c pl h0 h1 h2 h3 : Nat) (wr : Bool) (b : Nat) (w : World) (hB : Blk w b (FC pl h0 h1 h2 h3 1 wr) 237) (hc : h0 < 256) (n : Nat) (hn : n = Utf.wideN h0) (hw : 1 < n)
    (hm : Utf.mayB h0 1 c = true) :
    Calls Tryz.prog 137 #[.pointer (some ⟨b, 0, none⟩), .int .u8 c] w fun e w' => e = .returned (.bool true) ∧ Chg w w' [b] ∧
      Blk w' b (FCset pl h0 h1 h2 h3 1 n c wr) 237 := by
  obtain ⟨f0, f1, f2, f3, f4, f5, f6, f7, f8⟩ := FC_cells hB
  have hw2 : 2 ≤ Utf.wideN h0 := by omega
  have HN := Lib.hid hn
  have HM := Lib.hid hm
  have HB := Lib.hid hB
  have t0 : ((n : Int) == 0) = false := beq_eq_false_iff_ne.2 (by omega)
  have HW := Lib.hid hw2
  clear hn hm hB hw2
  by_cases hn2 : 1 + 1 = n
  · have t2 : ((1 + 1 : Int) == (n : Int)) = true := beq_iff_eq.2 (by omega)
    simp at t2
    have HE : Hid (FCset pl h0 h1 h2 h3 1 n c wr = FC pl h0 (if 1 = 1 then c else h1) (if 1 = 2 then c else h2) (if 1 = 3 then c else h3) 0 wr) := by
      unfold Hid FCset; rw [if_pos hn2]
    clear hn2
    go_enter Tryz.func137, Tryz.ntmps137
    go_wp2_with (first | (go_at_call 158; refine (utf_formOf h0 hc _).mono ?_; rintro e w1 ⟨rfl, hg1⟩; unfold PUtf.formV; rw [← HN.out]; have HB1 := Lib.hid (HB.out.kept hg1 (by simp)); obtain ⟨g0, g1, g2, g3, g4, g5, g6, g7, g8⟩ := FC_cells HB1.out))
    go_region_held3 (fun w' => w'.cell? ⟨b, 5, none⟩ = some (.int .i64 1) ∧ w'.cell? ⟨w1.heap.size, 0, none⟩ = some (.int .i64 n) ∧ w'.cell? ⟨w1.heap.size, 1, none⟩ = some (.int .u8 (Utf.lowN h0)) ∧ w'.cell? ⟨w1.heap.size, 2, none⟩ = some (.int .u8 (Utf.highN h0)))
      (first | go_keep | (refine ⟨hg2.keeps ?_, hg2.keeps ?_, hg2.keeps ?_, hg2.keeps ?_⟩ <;> go_keep))
      (first | (go_at_call 159; refine (utf_may' h0 1 _ _ HN.out HW.out _).mono ?_; rintro e w2 ⟨rfl, hg2⟩))
    rw [HM.out]
    have HB2 := Lib.hid ((HB1.out.alloc _).drew.kept hg2 (by simp))
    obtain ⟨k0, k1, k2, k3, k4, k5, k6, k7, k8⟩ := FC_cells HB2.out
    go_wp2
    go_region
    go_wp2
    go_quiet (fail)
    go_wp2
    go_ret
    have G2 := ((hg1.alloc _).drew.trans hg2).none [b]
    refine ⟨rfl, by (repeat (first | exact G2 | with_reducible refine Chg.drewN ?_ _ | with_reducible refine Chg.drew ?_ | with_reducible refine Chg.alloc ?_ _ | with_reducible refine Chg.setCell ?_ _ _ (by simp) | with_reducible refine Chg.setCell ?_ _ _ (by simp; omega))), ?_⟩
    rw [HE.out]
    (apply Blk.eq; (· (repeat (first | exact HB2.out | with_reducible apply Blk.drewN | with_reducible apply Blk.drew | with_reducible apply Blk.alloc | with_reducible apply Blk.set | (with_reducible apply Blk.set_other; rotate_left; (· first | (simp; done) | (simp; omega)))))); rfl)
  · have t2 : ((1 + 1 : Int) == (n : Int)) = false := beq_eq_false_iff_ne.2 (by omega)
    simp at t2
    have HE : Hid (FCset pl h0 h1 h2 h3 1 n c wr = FC pl h0 (if 1 = 1 then c else h1) (if 1 = 2 then c else h2) (if 1 = 3 then c else h3) (1 + 1) wr) := by
      unfold Hid FCset; rw [if_neg hn2]
    clear hn2
    go_enter Tryz.func137, Tryz.ntmps137
    go_wp2_with (first | (go_at_call 158; refine (utf_formOf h0 hc _).mono ?_; rintro e w1 ⟨rfl, hg1⟩; unfold PUtf.formV; rw [← HN.out]; have HB1 := Lib.hid (HB.out.kept hg1 (by simp)); obtain ⟨g0, g1, g2, g3, g4, g5, g6, g7, g8⟩ := FC_cells HB1.out))
    go_region_held3 (fun w' => w'.cell? ⟨b, 5, none⟩ = some (.int .i64 1) ∧ w'.cell? ⟨w1.heap.size, 0, none⟩ = some (.int .i64 n) ∧ w'.cell? ⟨w1.heap.size, 1, none⟩ = some (.int .u8 (Utf.lowN h0)) ∧ w'.cell? ⟨w1.heap.size, 2, none⟩ = some (.int .u8 (Utf.highN h0)))
      (first | go_keep | (refine ⟨hg2.keeps ?_, hg2.keeps ?_, hg2.keeps ?_, hg2.keeps ?_⟩ <;> go_keep))
      (first | (go_at_call 159; refine (utf_may' h0 1 _ _ HN.out HW.out _).mono ?_; rintro e w2 ⟨rfl, hg2⟩))
    rw [HM.out]
    have HB2 := Lib.hid ((HB1.out.alloc _).drew.kept hg2 (by simp))
    obtain ⟨k0, k1, k2, k3, k4, k5, k6, k7, k8⟩ := FC_cells HB2.out
    go_wp2
    go_region
    go_wp2
    go_quiet (fail)
    go_wp2
    go_ret
    have G2 := ((hg1.alloc _).drew.trans hg2).none [b]
    refine ⟨rfl, by (repeat (first | exact G2 | with_reducible refine Chg.drewN ?_ _ | with_reducible refine Chg.drew ?_ | with_reducible refine Chg.alloc ?_ _ | with_reducible refine Chg.setCell ?_ _ _ (by simp) | with_reducible refine Chg.setCell ?_ _ _ (by simp; omega))), ?_⟩
    rw [HE.out]
    (apply Blk.eq; (· (repeat (first | exact HB2.out | with_reducible apply Blk.drewN | with_reducible apply Blk.drew | with_reducible apply Blk.alloc | with_reducible apply Blk.set | (with_reducible apply Blk.set_other; rotate_left; (· first | (simp; done) | (simp; omega)))))); rfl)
set_option maxRecDepth 100000 in
set_option maxHeartbeats 1000000 in
theorem take_in2 (c pl h0 h1 h2 h3 : Nat) (wr : Bool) (b : Nat) (w : World) (hB : Blk w b (FC pl h0 h1 h2 h3 2 wr) 237) (hc : h0 < 256) (n : Nat) (hn : n = Utf.wideN h0) (hw : 2 < n)
    (hm : Utf.mayB h0 2 c = true) :
    Calls Tryz.prog 137 #[.pointer (some ⟨b, 0, none⟩), .int .u8 c] w fun e w' => e = .returned (.bool true) ∧ Chg w w' [b] ∧
      Blk w' b (FCset pl h0 h1 h2 h3 2 n c wr) 237 := by
  obtain ⟨f0, f1, f2, f3, f4, f5, f6, f7, f8⟩ := FC_cells hB
  have hw2 : 2 ≤ Utf.wideN h0 := by omega
  have HN := Lib.hid hn
  have HM := Lib.hid hm
  have HB := Lib.hid hB
  have t0 : ((n : Int) == 0) = false := beq_eq_false_iff_ne.2 (by omega)
  have HW := Lib.hid hw2
  clear hn hm hB hw2
  by_cases hn2 : 2 + 1 = n
  · have t2 : ((2 + 1 : Int) == (n : Int)) = true := beq_iff_eq.2 (by omega)
    simp at t2
    have HE : Hid (FCset pl h0 h1 h2 h3 2 n c wr = FC pl h0 (if 2 = 1 then c else h1) (if 2 = 2 then c else h2) (if 2 = 3 then c else h3) 0 wr) := by
      unfold Hid FCset; rw [if_pos hn2]
    clear hn2
    go_enter Tryz.func137, Tryz.ntmps137
    go_wp2_with (first | (go_at_call 158; refine (utf_formOf h0 hc _).mono ?_; rintro e w1 ⟨rfl, hg1⟩; unfold PUtf.formV; rw [← HN.out]; have HB1 := Lib.hid (HB.out.kept hg1 (by simp)); obtain ⟨g0, g1, g2, g3, g4, g5, g6, g7, g8⟩ := FC_cells HB1.out))
    go_region_held3 (fun w' => w'.cell? ⟨b, 5, none⟩ = some (.int .i64 2) ∧ w'.cell? ⟨w1.heap.size, 0, none⟩ = some (.int .i64 n) ∧ w'.cell? ⟨w1.heap.size, 1, none⟩ = some (.int .u8 (Utf.lowN h0)) ∧ w'.cell? ⟨w1.heap.size, 2, none⟩ = some (.int .u8 (Utf.highN h0)))
      (first | go_keep | (refine ⟨hg2.keeps ?_, hg2.keeps ?_, hg2.keeps ?_, hg2.keeps ?_⟩ <;> go_keep))
      (first | (go_at_call 159; refine (utf_may' h0 2 _ _ HN.out HW.out _).mono ?_; rintro e w2 ⟨rfl, hg2⟩))
    rw [HM.out]
    have HB2 := Lib.hid ((HB1.out.alloc _).drew.kept hg2 (by simp))
    obtain ⟨k0, k1, k2, k3, k4, k5, k6, k7, k8⟩ := FC_cells HB2.out
    go_wp2
    go_region
    go_wp2
    go_quiet (fail)
    go_wp2
    go_ret
    have G2 := ((hg1.alloc _).drew.trans hg2).none [b]
    refine ⟨rfl, by (repeat (first | exact G2 | with_reducible refine Chg.drewN ?_ _ | with_reducible refine Chg.drew ?_ | with_reducible refine Chg.alloc ?_ _ | with_reducible refine Chg.setCell ?_ _ _ (by simp) | with_reducible refine Chg.setCell ?_ _ _ (by simp; omega))), ?_⟩
    rw [HE.out]
    (apply Blk.eq; (· (repeat (first | exact HB2.out | with_reducible apply Blk.drewN | with_reducible apply Blk.drew | with_reducible apply Blk.alloc | with_reducible apply Blk.set | (with_reducible apply Blk.set_other; rotate_left; (· first | (simp; done) | (simp; omega)))))); rfl)
  · have t2 : ((2 + 1 : Int) == (n : Int)) = false := beq_eq_false_iff_ne.2 (by omega)
    simp at t2
    have HE : Hid (FCset pl h0 h1 h2 h3 2 n c wr = FC pl h0 (if 2 = 1 then c else h1) (if 2 = 2 then c else h2) (if 2 = 3 then c else h3) (2 + 1) wr) := by
      unfold Hid FCset; rw [if_neg hn2]
    clear hn2
    go_enter Tryz.func137, Tryz.ntmps137
    go_wp2_with (first | (go_at_call 158; refine (utf_formOf h0 hc _).mono ?_; rintro e w1 ⟨rfl, hg1⟩; unfold PUtf.formV; rw [← HN.out]; have HB1 := Lib.hid (HB.out.kept hg1 (by simp)); obtain ⟨g0, g1, g2, g3, g4, g5, g6, g7, g8⟩ := FC_cells HB1.out))
    go_region_held3 (fun w' => w'.cell? ⟨b, 5, none⟩ = some (.int .i64 2) ∧ w'.cell? ⟨w1.heap.size, 0, none⟩ = some (.int .i64 n) ∧ w'.cell? ⟨w1.heap.size, 1, none⟩ = some (.int .u8 (Utf.lowN h0)) ∧ w'.cell? ⟨w1.heap.size, 2, none⟩ = some (.int .u8 (Utf.highN h0)))
      (first | go_keep | (refine ⟨hg2.keeps ?_, hg2.keeps ?_, hg2.keeps ?_, hg2.keeps ?_⟩ <;> go_keep))
      (first | (go_at_call 159; refine (utf_may' h0 2 _ _ HN.out HW.out _).mono ?_; rintro e w2 ⟨rfl, hg2⟩))
    rw [HM.out]
    have HB2 := Lib.hid ((HB1.out.alloc _).drew.kept hg2 (by simp))
    obtain ⟨k0, k1, k2, k3, k4, k5, k6, k7, k8⟩ := FC_cells HB2.out
    go_wp2
    go_region
    go_wp2
    go_quiet (fail)
    go_wp2
    go_ret
    have G2 := ((hg1.alloc _).drew.trans hg2).none [b]
    refine ⟨rfl, by (repeat (first | exact G2 | with_reducible refine Chg.drewN ?_ _ | with_reducible refine Chg.drew ?_ | with_reducible refine Chg.alloc ?_ _ | with_reducible refine Chg.setCell ?_ _ _ (by simp) | with_reducible refine Chg.setCell ?_ _ _ (by simp; omega))), ?_⟩
    rw [HE.out]
    (apply Blk.eq; (· (repeat (first | exact HB2.out | with_reducible apply Blk.drewN | with_reducible apply Blk.drew | with_reducible apply Blk.alloc | with_reducible apply Blk.set | (with_reducible apply Blk.set_other; rotate_left; (· first | (simp; done) | (simp; omega)))))); rfl)
set_option maxRecDepth 100000 in
set_option maxHeartbeats 1000000 in
theorem take_in3 (c pl h0 h1 h2 h3 : Nat) (wr : Bool) (b : Nat) (w : World) (hB : Blk w b (FC pl h0 h1 h2 h3 3 wr) 237) (hc : h0 < 256) (n : Nat) (hn : n = Utf.wideN h0) (hw : 3 < n)
    (hm : Utf.mayB h0 3 c = true) :
    Calls Tryz.prog 137 #[.pointer (some ⟨b, 0, none⟩), .int .u8 c] w fun e w' => e = .returned (.bool true) ∧ Chg w w' [b] ∧
      Blk w' b (FCset pl h0 h1 h2 h3 3 n c wr) 237 := by
  obtain ⟨f0, f1, f2, f3, f4, f5, f6, f7, f8⟩ := FC_cells hB
  have hw2 : 2 ≤ Utf.wideN h0 := by omega
  have HN := Lib.hid hn
  have HM := Lib.hid hm
  have HB := Lib.hid hB
  have t0 : ((n : Int) == 0) = false := beq_eq_false_iff_ne.2 (by omega)
  have HW := Lib.hid hw2
  clear hn hm hB hw2
  by_cases hn2 : 3 + 1 = n
  · have t2 : ((3 + 1 : Int) == (n : Int)) = true := beq_iff_eq.2 (by omega)
    simp at t2
    have HE : Hid (FCset pl h0 h1 h2 h3 3 n c wr = FC pl h0 (if 3 = 1 then c else h1) (if 3 = 2 then c else h2) (if 3 = 3 then c else h3) 0 wr) := by
      unfold Hid FCset; rw [if_pos hn2]
    clear hn2
    go_enter Tryz.func137, Tryz.ntmps137
    go_wp2_with (first | (go_at_call 158; refine (utf_formOf h0 hc _).mono ?_; rintro e w1 ⟨rfl, hg1⟩; unfold PUtf.formV; rw [← HN.out]; have HB1 := Lib.hid (HB.out.kept hg1 (by simp)); obtain ⟨g0, g1, g2, g3, g4, g5, g6, g7, g8⟩ := FC_cells HB1.out))
    go_region_held3 (fun w' => w'.cell? ⟨b, 5, none⟩ = some (.int .i64 3) ∧ w'.cell? ⟨w1.heap.size, 0, none⟩ = some (.int .i64 n) ∧ w'.cell? ⟨w1.heap.size, 1, none⟩ = some (.int .u8 (Utf.lowN h0)) ∧ w'.cell? ⟨w1.heap.size, 2, none⟩ = some (.int .u8 (Utf.highN h0)))
      (first | go_keep | (refine ⟨hg2.keeps ?_, hg2.keeps ?_, hg2.keeps ?_, hg2.keeps ?_⟩ <;> go_keep))
      (first | (go_at_call 159; refine (utf_may' h0 3 _ _ HN.out HW.out _).mono ?_; rintro e w2 ⟨rfl, hg2⟩))
    rw [HM.out]
    have HB2 := Lib.hid ((HB1.out.alloc _).drew.kept hg2 (by simp))
    obtain ⟨k0, k1, k2, k3, k4, k5, k6, k7, k8⟩ := FC_cells HB2.out
    go_wp2
    go_region
    go_wp2
    go_quiet (fail)
    go_wp2
    go_ret
    have G2 := ((hg1.alloc _).drew.trans hg2).none [b]
    refine ⟨rfl, by (repeat (first | exact G2 | with_reducible refine Chg.drewN ?_ _ | with_reducible refine Chg.drew ?_ | with_reducible refine Chg.alloc ?_ _ | with_reducible refine Chg.setCell ?_ _ _ (by simp) | with_reducible refine Chg.setCell ?_ _ _ (by simp; omega))), ?_⟩
    rw [HE.out]
    (apply Blk.eq; (· (repeat (first | exact HB2.out | with_reducible apply Blk.drewN | with_reducible apply Blk.drew | with_reducible apply Blk.alloc | with_reducible apply Blk.set | (with_reducible apply Blk.set_other; rotate_left; (· first | (simp; done) | (simp; omega)))))); rfl)
  · have t2 : ((3 + 1 : Int) == (n : Int)) = false := beq_eq_false_iff_ne.2 (by omega)
    simp at t2
    have HE : Hid (FCset pl h0 h1 h2 h3 3 n c wr = FC pl h0 (if 3 = 1 then c else h1) (if 3 = 2 then c else h2) (if 3 = 3 then c else h3) (3 + 1) wr) := by
      unfold Hid FCset; rw [if_neg hn2]
    clear hn2
    go_enter Tryz.func137, Tryz.ntmps137
    go_wp2_with (first | (go_at_call 158; refine (utf_formOf h0 hc _).mono ?_; rintro e w1 ⟨rfl, hg1⟩; unfold PUtf.formV; rw [← HN.out]; have HB1 := Lib.hid (HB.out.kept hg1 (by simp)); obtain ⟨g0, g1, g2, g3, g4, g5, g6, g7, g8⟩ := FC_cells HB1.out))
    go_region_held3 (fun w' => w'.cell? ⟨b, 5, none⟩ = some (.int .i64 3) ∧ w'.cell? ⟨w1.heap.size, 0, none⟩ = some (.int .i64 n) ∧ w'.cell? ⟨w1.heap.size, 1, none⟩ = some (.int .u8 (Utf.lowN h0)) ∧ w'.cell? ⟨w1.heap.size, 2, none⟩ = some (.int .u8 (Utf.highN h0)))
      (first | go_keep | (refine ⟨hg2.keeps ?_, hg2.keeps ?_, hg2.keeps ?_, hg2.keeps ?_⟩ <;> go_keep))
      (first | (go_at_call 159; refine (utf_may' h0 3 _ _ HN.out HW.out _).mono ?_; rintro e w2 ⟨rfl, hg2⟩))
    rw [HM.out]
    have HB2 := Lib.hid ((HB1.out.alloc _).drew.kept hg2 (by simp))
    obtain ⟨k0, k1, k2, k3, k4, k5, k6, k7, k8⟩ := FC_cells HB2.out
    go_wp2
    go_region
    go_wp2
    go_quiet (fail)
    go_wp2
    go_ret
    have G2 := ((hg1.alloc _).drew.trans hg2).none [b]
    refine ⟨rfl, by (repeat (first | exact G2 | with_reducible refine Chg.drewN ?_ _ | with_reducible refine Chg.drew ?_ | with_reducible refine Chg.alloc ?_ _ | with_reducible refine Chg.setCell ?_ _ _ (by simp) | with_reducible refine Chg.setCell ?_ _ _ (by simp; omega))), ?_⟩
    rw [HE.out]
    (apply Blk.eq; (· (repeat (first | exact HB2.out | with_reducible apply Blk.drewN | with_reducible apply Blk.drew | with_reducible apply Blk.alloc | with_reducible apply Blk.set | (with_reducible apply Blk.set_other; rotate_left; (· first | (simp; done) | (simp; omega)))))); rfl)
set_option maxRecDepth 100000 in
set_option maxHeartbeats 1000000 in
theorem take_bad1 (c pl h0 h1 h2 h3 : Nat) (wr : Bool) (b : Nat) (w : World) (hB : Blk w b (FC pl h0 h1 h2 h3 1 wr) 237) (hc : h0 < 256) (n : Nat) (hn : n = Utf.wideN h0) (hw : 1 < n)
    (hm : Utf.mayB h0 1 c = false) :
    Calls Tryz.prog 137 #[.pointer (some ⟨b, 0, none⟩), .int .u8 c] w fun e w' => e = .returned (.bool false) ∧ Chg w w' [] := by
  obtain ⟨f0, f1, f2, f3, f4, f5, f6, f7, f8⟩ := FC_cells hB
  have hw2 : 2 ≤ Utf.wideN h0 := by omega
  have HN := Lib.hid hn
  have HM := Lib.hid hm
  have HB := Lib.hid hB
  have HW := Lib.hid hw2
  clear hn hm hB hw2
  go_enter Tryz.func137, Tryz.ntmps137
  go_wp2_with (first | (go_at_call 158; refine (utf_formOf h0 hc _).mono ?_; rintro e w1 ⟨rfl, hg1⟩; unfold PUtf.formV; rw [← HN.out]; have HB1 := Lib.hid (HB.out.kept hg1 (by simp)); obtain ⟨g0, g1, g2, g3, g4, g5, g6, g7, g8⟩ := FC_cells HB1.out))
  go_region_held3 (fun w' => w'.cell? ⟨b, 5, none⟩ = some (.int .i64 1) ∧ w'.cell? ⟨w1.heap.size, 0, none⟩ = some (.int .i64 n) ∧ w'.cell? ⟨w1.heap.size, 1, none⟩ = some (.int .u8 (Utf.lowN h0)) ∧ w'.cell? ⟨w1.heap.size, 2, none⟩ = some (.int .u8 (Utf.highN h0)))
    (first | go_keep | (refine ⟨hg2.keeps ?_, hg2.keeps ?_, hg2.keeps ?_, hg2.keeps ?_⟩ <;> go_keep))
    (first | (go_at_call 159; refine (utf_may' h0 1 _ _ HN.out HW.out _).mono ?_; rintro e w2 ⟨rfl, hg2⟩))
  rw [HM.out]
  go_wp2
  go_ret
  have G2 := (hg1.alloc _).drew.trans hg2
  refine ⟨rfl, by (repeat (first | exact G2 | with_reducible refine Chg.drewN ?_ _ | with_reducible refine Chg.drew ?_ | with_reducible refine Chg.alloc ?_ _ | with_reducible refine Chg.setCell ?_ _ _ (by simp) | with_reducible refine Chg.setCell ?_ _ _ (by simp; omega)))⟩

set_option maxRecDepth 100000 in
set_option maxHeartbeats 1000000 in
theorem take_bad2 (c pl h0 h1 h2 h3 : Nat) (wr : Bool) (b : Nat) (w : World) (hB : Blk w b (FC pl h0 h1 h2 h3 2 wr) 237) (hc : h0 < 256) (n : Nat) (hn : n = Utf.wideN h0) (hw : 2 < n)
    (hm : Utf.mayB h0 2 c = false) :
    Calls Tryz.prog 137 #[.pointer (some ⟨b, 0, none⟩), .int .u8 c] w fun e w' => e = .returned (.bool false) ∧ Chg w w' [] := by
  obtain ⟨f0, f1, f2, f3, f4, f5, f6, f7, f8⟩ := FC_cells hB
  have hw2 : 2 ≤ Utf.wideN h0 := by omega
  have HN := Lib.hid hn
  have HM := Lib.hid hm
  have HB := Lib.hid hB
  have HW := Lib.hid hw2
  clear hn hm hB hw2
  go_enter Tryz.func137, Tryz.ntmps137
  go_wp2_with (first | (go_at_call 158; refine (utf_formOf h0 hc _).mono ?_; rintro e w1 ⟨rfl, hg1⟩; unfold PUtf.formV; rw [← HN.out]; have HB1 := Lib.hid (HB.out.kept hg1 (by simp)); obtain ⟨g0, g1, g2, g3, g4, g5, g6, g7, g8⟩ := FC_cells HB1.out))
  go_region_held3 (fun w' => w'.cell? ⟨b, 5, none⟩ = some (.int .i64 2) ∧ w'.cell? ⟨w1.heap.size, 0, none⟩ = some (.int .i64 n) ∧ w'.cell? ⟨w1.heap.size, 1, none⟩ = some (.int .u8 (Utf.lowN h0)) ∧ w'.cell? ⟨w1.heap.size, 2, none⟩ = some (.int .u8 (Utf.highN h0)))
    (first | go_keep | (refine ⟨hg2.keeps ?_, hg2.keeps ?_, hg2.keeps ?_, hg2.keeps ?_⟩ <;> go_keep))
    (first | (go_at_call 159; refine (utf_may' h0 2 _ _ HN.out HW.out _).mono ?_; rintro e w2 ⟨rfl, hg2⟩))
  rw [HM.out]
  go_wp2
  go_ret
  have G2 := (hg1.alloc _).drew.trans hg2
  refine ⟨rfl, by (repeat (first | exact G2 | with_reducible refine Chg.drewN ?_ _ | with_reducible refine Chg.drew ?_ | with_reducible refine Chg.alloc ?_ _ | with_reducible refine Chg.setCell ?_ _ _ (by simp) | with_reducible refine Chg.setCell ?_ _ _ (by simp; omega)))⟩

set_option maxRecDepth 100000 in
set_option maxHeartbeats 1000000 in
theorem take_bad3 (c pl h0 h1 h2 h3 : Nat) (wr : Bool) (b : Nat) (w : World) (hB : Blk w b (FC pl h0 h1 h2 h3 3 wr) 237) (hc : h0 < 256) (n : Nat) (hn : n = Utf.wideN h0) (hw : 3 < n)
    (hm : Utf.mayB h0 3 c = false) :
    Calls Tryz.prog 137 #[.pointer (some ⟨b, 0, none⟩), .int .u8 c] w fun e w' => e = .returned (.bool false) ∧ Chg w w' [] := by
  obtain ⟨f0, f1, f2, f3, f4, f5, f6, f7, f8⟩ := FC_cells hB
  have hw2 : 2 ≤ Utf.wideN h0 := by omega
  have HN := Lib.hid hn
  have HM := Lib.hid hm
  have HB := Lib.hid hB
  have HW := Lib.hid hw2
  clear hn hm hB hw2
  go_enter Tryz.func137, Tryz.ntmps137
  go_wp2_with (first | (go_at_call 158; refine (utf_formOf h0 hc _).mono ?_; rintro e w1 ⟨rfl, hg1⟩; unfold PUtf.formV; rw [← HN.out]; have HB1 := Lib.hid (HB.out.kept hg1 (by simp)); obtain ⟨g0, g1, g2, g3, g4, g5, g6, g7, g8⟩ := FC_cells HB1.out))
  go_region_held3 (fun w' => w'.cell? ⟨b, 5, none⟩ = some (.int .i64 3) ∧ w'.cell? ⟨w1.heap.size, 0, none⟩ = some (.int .i64 n) ∧ w'.cell? ⟨w1.heap.size, 1, none⟩ = some (.int .u8 (Utf.lowN h0)) ∧ w'.cell? ⟨w1.heap.size, 2, none⟩ = some (.int .u8 (Utf.highN h0)))
    (first | go_keep | (refine ⟨hg2.keeps ?_, hg2.keeps ?_, hg2.keeps ?_, hg2.keeps ?_⟩ <;> go_keep))
    (first | (go_at_call 159; refine (utf_may' h0 3 _ _ HN.out HW.out _).mono ?_; rintro e w2 ⟨rfl, hg2⟩))
  rw [HM.out]
  go_wp2
  go_ret
  have G2 := (hg1.alloc _).drew.trans hg2
  refine ⟨rfl, by (repeat (first | exact G2 | with_reducible refine Chg.drewN ?_ _ | with_reducible refine Chg.drew ?_ | with_reducible refine Chg.alloc ?_ _ | with_reducible refine Chg.setCell ?_ _ _ (by simp) | with_reducible refine Chg.setCell ?_ _ _ (by simp; omega)))⟩

end Go.Proofs.YtfdhgakalojahaaGreatDoor

namespace Go.Proofs.YtfdhgakalojahaaGreatDoor
open Go.RowKit

/-- what 'take' does at a byte of s -/
def TakePost (s : ByteArray) (k pl h0 m : Nat) (wr : Bool) (b : Nat) (w : World) (e : Ending) (w' : World) : Prop :=
  (e = .returned (.bool true) ∧ ∃ h0' h1' h2' h3' m' : Nat, Chg w w' [b] ∧ Blk w' b (FC pl h0' h1' h2' h3' m' wr) 237 ∧ Utf.Inv s (k + 1) m' h0') ∨
  (e = .returned (.bool false) ∧ ∃ h0' h1' h2' h3' m' : Nat, Chg w w' [b] ∧ Blk w' b (FC pl h0' h1' h2' h3' m' wr) 237 ∧ Utf.rightB s = false)

theorem take_step (s : ByteArray) (k pl h0 h1 h2 h3 m : Nat) (wr : Bool) (b : Nat) (w : World) (hB : Blk w b (FC pl h0 h1 h2 h3 m wr) 237) (i : Utf.Inv s k m h0) (hk : k < s.size) :
    Calls Tryz.prog 137 #[.pointer (some ⟨b, 0, none⟩), .int .u8 (Utf.byteAt s k)] w (TakePost s k pl h0 m wr b w) := by
  have hc := Utf.byteAt_lt s k
  by_cases hm : m = 0
  · subst hm
    by_cases w0 : Utf.wideN (Utf.byteAt s k) = 0
    · exact (take_no _ pl h0 h1 h2 h3 wr b w hB hc w0).mono fun e w' ⟨he, hg⟩ => .inr ⟨he, h0, h1, h2, h3, 0, hg.none _, hB.kept hg (by simp), Utf.inv_no i hk w0⟩
    · by_cases w1 : Utf.wideN (Utf.byteAt s k) = 1
      · exact (take_one _ pl h0 h1 h2 h3 wr b w hB hc w1).mono fun e w' ⟨he, hg⟩ => .inl ⟨he, h0, h1, h2, h3, 0, hg.none _, hB.kept hg (by simp), Utf.inv_one i hk w1 _⟩
      · exact (take_more _ pl h0 h1 h2 h3 wr b w hB hc (by omega)).mono fun e w' ⟨he, hg, hb⟩ => .inl ⟨he, _, h1, h2, h3, 1, hg, hb, Utf.inv_more i hk (by omega)⟩
  · obtain ⟨g1, g2, g3⟩ := Utf.inv_wide i (by omega)
    have hm3 : m = 1 ∨ m = 2 ∨ m = 3 := by omega
    cases hb : Utf.mayB h0 m (Utf.byteAt s k) with
    | true =>
      have fin : ∀ e w', (e = .returned (.bool true) ∧ Chg w w' [b] ∧ Blk w' b (FCset pl h0 h1 h2 h3 m (Utf.wideN h0) (Utf.byteAt s k) wr) 237) → TakePost s k pl h0 m wr b w e w' := by
        rintro e w' ⟨he, hg, hB'⟩
        unfold FCset at hB'
        by_cases hl : m + 1 = Utf.wideN h0
        · rw [if_pos hl] at hB'
          exact .inl ⟨he, h0, _, _, _, 0, hg, hB', Utf.inv_last i (by omega) hk hl hb _⟩
        · rw [if_neg hl] at hB'
          exact .inl ⟨he, h0, _, _, _, m + 1, hg, hB', Utf.inv_in i (by omega) hk (by omega) hb⟩
      rcases hm3 with rfl | rfl | rfl
      · exact (take_in1 _ pl h0 h1 h2 h3 wr b w hB g3 _ rfl g1 hb).mono fin
      · exact (take_in2 _ pl h0 h1 h2 h3 wr b w hB g3 _ rfl g1 hb).mono fin
      · exact (take_in3 _ pl h0 h1 h2 h3 wr b w hB g3 _ rfl g1 hb).mono fin
    | false =>
      have hr := Utf.inv_bad i (by omega) hk hb
      have fin : ∀ e w', (e = .returned (.bool false) ∧ Chg w w' []) → TakePost s k pl h0 m wr b w e w' :=
        fun e w' ⟨he, hg⟩ => .inr ⟨he, h0, h1, h2, h3, m, hg.none _, hB.kept hg (by simp), hr⟩
      rcases hm3 with rfl | rfl | rfl
      · exact (take_bad1 _ pl h0 h1 h2 h3 wr b w hB g3 _ rfl g1 hb).mono fin
      · exact (take_bad2 _ pl h0 h1 h2 h3 wr b w hB g3 _ rfl g1 hb).mono fin
      · exact (take_bad3 _ pl h0 h1 h2 h3 wr b w hB g3 _ rfl g1 hb).mono fin
end Go.Proofs.YtfdhgakalojahaaGreatDoor

namespace Go.Proofs.YtfdhgakalojahaaGreatDoor
open Go.RowKit

theorem utf_New (w : World) :
    Calls Tryz.prog 118 #[] w fun e w' => e = .returned (.pointer (some ⟨w.heap.size, 0, none⟩)) ∧ w.alloc (.cells (FC 0 0 0 0 0 0 false).toArray 237) = w' := by
  go_enter Tryz.func118, Tryz.ntmps118
  go_wp2
  go_ret
  exact ⟨rfl, rfl⟩

theorem utf_fault_no (b : Nat) (w : World) (h : w.cell? ⟨b, 6, none⟩ = some (.bool false)) :
    Calls Tryz.prog 138 #[.pointer (some ⟨b, 0, none⟩)] w fun e w' => e = .returned .nilIface ∧ w = w' := by
  go_enter Tryz.func138, Tryz.ntmps138
  go_wp2
  go_ret
  exact ⟨rfl, rfl⟩
theorem utf_fault_yes (b : Nat) (n : Int) (w : World) (h : w.cell? ⟨b, 6, none⟩ = some (.bool true)) (h0 : w.cell? ⟨b, 0, none⟩ = some (.int .i64 n)) :
    Calls Tryz.prog 138 #[.pointer (some ⟨b, 0, none⟩)] w fun e w' => e = .returned (.iface 100 (.agg #[.int .i64 30, .int .i64 n])) ∧ w = w' := by
  go_enter Tryz.func138, Tryz.ntmps138
  go_wp2
  go_ret
  exact ⟨rfl, rfl⟩

/-- what 'Feed' does with the bytes of s, at a new feeder -/
def FeedPost (s : ByteArray) (b : Nat) (w : World) (e : Ending) (w' : World) : Prop :=
  ∃ (v : Value) (pl h0 h1 h2 h3 m : Nat) (wr : Bool), e = .returned v ∧ Chg w w' [b] ∧ Blk w' b (FC pl h0 h1 h2 h3 m wr) 237 ∧ (Utf.rightB s = true → wr = false ∧ m = 0) ∧ (Utf.rightB s = false → wr = true ∨ 0 < m)

set_option maxRecDepth 100000 in
set_option maxHeartbeats 1000000 in
theorem utf_Feed (s : ByteArray) (hs : s.size ≤ 2147483648) (b bb cap : Nat) (w : World) (hB : Blk w b (FC 0 0 0 0 0 0 false) 237) (hbb : bb ≠ b)
    (hbl : bb < w.heap.size) (hc : ∀ i, i < s.size → w.cell? ⟨bb, i, none⟩ = some (.int .u8 (Utf.byteAt s i))) :
    Calls Tryz.prog 119 #[.pointer (some ⟨b, 0, none⟩), .slice (some ⟨bb, 0, none⟩) s.size cap] w (FeedPost s b w) := by
  have HB := Lib.hid hB
  have hb := hB.lt
  have HC := Lib.hid hc
  clear hB hc
  go_enter Tryz.func119, Tryz.ntmps119
  go_wp2_with fail
  go_loopw [5] (fun i wr => ∃ k h0 h1 h2 h3 m pl : Nat, ∃ bad : Bool, k ≤ s.size ∧ pl ≤ k ∧ i = .int .i64 k ∧ Chg w wr [b] ∧ Blk wr b (FC pl h0 h1 h2 h3 m bad) 237 ∧
      (bad = false → Utf.Inv s k m h0) ∧ (bad = true → Utf.rightB s = false)) (fun i _ => s.size - (intOf i).toNat)
  case atStart => exact ⟨0, 0, 0, 0, 0, 0, 0, false, by omega, by omega, rfl, Chg.refl _ _, HB.out, fun _ => Utf.inv_start s 0, fun h => by cases h⟩
  case round =>
    obtain ⟨k, h0, h1, h2, h3, m, pl, bad, hk, hpl, rfl, hg, hB1, hi, hw⟩ := hrel
    obtain ⟨g0, g1, c0, c1, c2, c3, c4, c5, c6⟩ := FC_cells hB1
    have HB1 := Lib.hid hB1
    have HG := Lib.hid hg
    clear hB1 hg
    cases bad with
    | true =>
      have HR := Lib.hid (hw rfl)
      clear hw hi
      by_cases hlt : k < s.size
      · go_wp2_with (first | (go_at_call 138; refine (utf_fault_yes b _ _ c6 c0).mono ?_; rintro e w' ⟨rfl, rfl⟩))
        go_ret
        exact ⟨_, _, _, _, _, _, _, _, rfl, HG.out, HB1.out, fun h => (by rw [HR.out] at h; cases h), fun _ => .inl rfl⟩
      · go_wp2_with (first | (go_at_call 138; refine (utf_fault_yes b _ _ c6 c0).mono ?_; rintro e w' ⟨rfl, rfl⟩))
        go_ret
        exact ⟨_, _, _, _, _, _, _, _, rfl, HG.out, HB1.out, fun h => (by rw [HR.out] at h; cases h), fun _ => .inl rfl⟩
    | false =>
      have HI := Lib.hid (hi rfl)
      clear hw hi
      by_cases hlt : k < s.size
      · have cb : wr.cell? ⟨bb, k, none⟩ = some (.int .u8 (Utf.byteAt s k)) := (HG.out.cell (p := ⟨bb, k, none⟩) hbl (by simpa using hbb)).trans (HC.out k hlt)
        go_wp2_with (first | (go_at_call 137; refine (take_step s k pl h0 h1 h2 h3 m false b wr HB1.out HI.out hlt).mono ?_; rintro e w2 (⟨rfl, a0, a1, a2, a3, a4, hg2, hb2, hi2⟩ | ⟨rfl, a0, a1, a2, a3, a4, hg2, hb2, hr2⟩) <;> (have HB2 := Lib.hid hb2; have HG2 := Lib.hid hg2; obtain ⟨d0, d1, d2, d3, d4, d5, d6, d7, d8⟩ := FC_cells hb2; clear hb2 hg2)))
        · go_roundw
          case rel =>
            have G2 := HG.out.trans HG2.out
            exact ⟨k + 1, _, _, _, _, _, pl + 1, false, by omega, by omega, by go_num, by (repeat (first | exact G2 | with_reducible refine Chg.drewN ?_ _ | with_reducible refine Chg.drew ?_ | with_reducible refine Chg.alloc ?_ _ | with_reducible refine Chg.setCell ?_ _ _ (by simp) | with_reducible refine Chg.setCell ?_ _ _ (by simp; omega))), by (apply Blk.eq; (· (repeat (first | exact HB2.out | with_reducible apply Blk.drewN | with_reducible apply Blk.drew | with_reducible apply Blk.alloc | with_reducible apply Blk.set | (with_reducible apply Blk.set_other; rotate_left; (· first | (simp; done) | (simp; omega)))))); rfl), fun _ => hi2, fun h => (by cases h)⟩
          case measure => simp [intOf]; omega
        · go_roundw
          case rel =>
            have G2 := HG.out.trans HG2.out
            exact ⟨k + 1, _, _, _, _, _, pl, true, by omega, by omega, by go_num, by (repeat (first | exact G2 | with_reducible refine Chg.drewN ?_ _ | with_reducible refine Chg.drew ?_ | with_reducible refine Chg.alloc ?_ _ | with_reducible refine Chg.setCell ?_ _ _ (by simp) | with_reducible refine Chg.setCell ?_ _ _ (by simp; omega))), by (apply Blk.eq; (· (repeat (first | exact HB2.out | with_reducible apply Blk.drewN | with_reducible apply Blk.drew | with_reducible apply Blk.alloc | with_reducible apply Blk.set | (with_reducible apply Blk.set_other; rotate_left; (· first | (simp; done) | (simp; omega)))))); rfl), fun h => (by cases h), fun _ => hr2⟩
          case measure => simp [intOf]; omega
      · go_wp2_with (first | (go_at_call 138; refine (utf_fault_no b _ c6).mono ?_; rintro e w' ⟨rfl, rfl⟩))
        go_ret
        have hks : k = s.size := by omega
        refine ⟨_, _, _, _, _, _, _, _, rfl, HG.out, HB1.out, fun h => ⟨rfl, ?_⟩, fun h => .inr ?_⟩
        · have hi := HI.out
          rw [hks] at hi
          by_cases hm : m = 0
          · exact hm
          · rw [Utf.inv_cut hi (by omega)] at h; cases h
        · have hi := HI.out
          rw [hks] at hi
          by_cases hm : m = 0
          · rw [hm] at hi; rw [Utf.inv_end hi] at h; cases h
          · omega

def ErrV (ok : Bool) (v : Value) : Prop := (ok = true ∧ v = .nilIface) ∨ (ok = false ∧ ∃ (n m : Int), v = .iface 100 (.agg #[.int .i64 n, .int .i64 m]))

set_option maxRecDepth 100000 in
set_option maxHeartbeats 1000000 in
theorem utf_End (pl h0 h1 h2 h3 m : Nat) (wr ok : Bool) (b : Nat) (w : World) (hB : Blk w b (FC pl h0 h1 h2 h3 m wr) 237) (h1' : ok = true → wr = false ∧ m = 0) (h2' : ok = false → wr = true ∨ 0 < m) :
    Calls Tryz.prog 120 #[.pointer (some ⟨b, 0, none⟩)] w fun e w' => ∃ v, e = .returned v ∧ ErrV ok v ∧ w = w' := by
  obtain ⟨g0, g1, c0, c1, c2, c3, c4, c5, c6⟩ := FC_cells hB
  clear hB
  cases ok with
  | true =>
    obtain ⟨rfl, rfl⟩ := h1' rfl
    clear h1' h2'
    go_enter Tryz.func120, Tryz.ntmps120
    go_wp2_with (first | (go_at_call 138; refine (utf_fault_no b _ c6).mono ?_; rintro e w' ⟨rfl, rfl⟩))
    go_ret
    exact ⟨_, rfl, .inl ⟨rfl, rfl⟩, rfl⟩
  | false =>
    have h2 := h2' rfl
    clear h1' h2'
    by_cases hm : 0 < m
    · have hm' : 0 < (m : Int) := by omega
      clear h2
      go_enter Tryz.func120, Tryz.ntmps120
      go_wp2
      go_ret
      exact ⟨_, rfl, .inr ⟨rfl, _, _, rfl⟩, rfl⟩
    · have hm' : ¬ 0 < (m : Int) := by omega
      obtain rfl : wr = true := h2.resolve_right hm
      clear h2
      go_enter Tryz.func120, Tryz.ntmps120
      go_wp2_with (first | (go_at_call 138; refine (utf_fault_yes b _ _ c6 c0).mono ?_; rintro e w' ⟨rfl, rfl⟩))
      go_ret
      exact ⟨_, rfl, .inr ⟨rfl, _, _, rfl⟩, rfl⟩

set_option maxRecDepth 100000 in
set_option maxHeartbeats 1000000 in
theorem utf_Check (s : ByteArray) (hs : s.size ≤ 2147483648) (bb cap : Nat) (w : World) (hbl : bb < w.heap.size) (hc : ∀ i, i < s.size → w.cell? ⟨bb, i, none⟩ = some (.int .u8 (Utf.byteAt s i))) :
    Calls Tryz.prog 94 #[.slice (some ⟨bb, 0, none⟩) s.size cap] w fun e w' => ∃ v, e = .returned v ∧ ErrV (Utf.rightB s) v ∧ Chg w w' [] := by
  have HC := Lib.hid hc
  clear hc
  go_enter Tryz.func94, Tryz.ntmps94
  go_wp2_with (first
    | (go_at_call 118; refine (utf_New _).mono ?_; rintro e w' ⟨rfl, rfl⟩)
    | (go_at_call 119; refine (utf_Feed s hs w.heap.size bb cap _ (Blk.new w _ _) (by omega) (by simp; omega) (fun i hi => ((Chg.refl w []).alloc _).keeps (HC.out i hi))).mono ?_; rintro e w1 ⟨v, pl, h0, h1, h2, h3, m, wr, rfl, hg, hB, i1, i2⟩; have HB := Lib.hid hB; have HG := Lib.hid hg; have I1 := Lib.hid i1; have I2 := Lib.hid i2; clear hB hg i1 i2)
    | (go_at_call 120; refine (utf_End _ _ _ _ _ _ _ _ _ _ HB.out I1.out I2.out).mono ?_; rintro e w2 ⟨v2, rfl, he, rfl⟩; have HE := Lib.hid he; clear he))
  go_ret
  exact ⟨_, rfl, HE.out, ((Chg.refl w []).alloc _).fresh HG.out (by simp)⟩

set_option maxRecDepth 100000 in
set_option maxHeartbeats 1000000 in
theorem utf_Right (s : ByteArray) (w : World) (hs : s.size ≤ 2147483648) :
    Calls Tryz.prog 54 #[.string s] w fun e w' => e = .returned (.bool (Utf.rightB s)) ∧ Chg w w' [] := by
  obtain ⟨cap, w1, hconv, hcap, hg1, hz, hcells⟩ := conv_bytes (P := Tryz.prog) w 9 90 5 s Tryz.underlying9 Tryz.underlying90 Tryz.underlying5
  have HC := Lib.hid hcells
  have HZ := Lib.hid hz
  clear hcells hz
  go_enter Tryz.func54, Tryz.ntmps54
  go_wp2_with (first | (go_at_call 94; refine (utf_Check s hs w.heap.size cap _ (by rw [HZ.out]; omega) HC.out).mono ?_; rintro e w2 ⟨v2, rfl, he, hg2⟩; rcases he with ⟨he1, rfl⟩ | ⟨he1, n, m, rfl⟩ <;> (have HE := Lib.hid he1; clear he1)))
  all_goals go_ret
  all_goals exact ⟨ret_bool HE.out.symm, hg1.trans hg2⟩
end Go.Proofs.YtfdhgakalojahaaGreatDoor

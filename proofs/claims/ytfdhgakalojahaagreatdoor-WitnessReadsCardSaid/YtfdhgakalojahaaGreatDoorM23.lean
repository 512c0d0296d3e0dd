/- WALKS: the digest of nothing: the program's and the reference's are one. WALKS: the program's layer 10: what catches a step's panic. WALKS: the program's layer 10: a step of one text. WALKS: the program's layer 10: a step of one number. -/
import Derived.Test.YtfdhgakalojahaaGreatDoorM20
import Derived.Test.YtfdhgakalojahaaGreatDoorM15
import Derived.Test.YtfdhgakalojahaaGreatDoorM22
import Derived.Defers
import Derived.Recover
import Derived.LaidEql
import Derived.Test.YtfdhgakalojahaaGreatDoorM06
import Derived.Test.YtfdhgakalojahaaGreatDoorM08
import Derived.Test.YtfdhgakalojahaaGreatDoorM21
import Derived.Test.YtfdhgakalojahaaGreatDoorM05
set_option linter.unusedSimpArgs false
set_option linter.unusedVariables false
set_option linter.unnecessarySimpa false
set_option linter.unusedSectionVars false
namespace Go.Proofs.YtfdhgakalojahaaGreatDoor
open Go Go.RowKit

set_option maxRecDepth 100000 in
set_option maxHeartbeats 4000000 in
theorem r2_OfNone (w : World) :
    Calls Tryz.prog 89 #[.slice none 0 0] w fun e w' => e = .returned (.agg (dCells (Sha.round (rootV true) firstS) 32).toArray) ∧ Chg w w' [] := by
  obtain ⟨s, hs⟩ : ∃ s, s = firstS := ⟨_, rfl⟩
  have HN : Hid (∀ w, Calls Tryz.prog 112 #[] w fun e w' => e = .returned (.agg (HC s 0 (.slice none 0 0)).toArray) ∧ Chg w w' []) := by intro w; rw [hs]; exact r2_New w
  rw [← hs]
  clear hs
  have HB0 := Lib.hid (Blk.new w (List.replicate 32 (.int .u8 0)) 22)
  obtain ⟨w0, hw0⟩ : ∃ x, x = w.alloc (.cells (List.replicate 32 (.int .u8 0)).toArray 22) := ⟨_, rfl⟩
  have HG0 : Hid (Chg w w0 []) := by rw [hw0]; exact Lib.hid ((Chg.refl w []).alloc _)
  rw [← hw0] at HB0
  have HW := Lib.hid hw0
  clear hw0
  go_enter Tryz.func89, Tryz.ntmps89
  go_wp2_with fail
  change Calls _ _ _ (w.alloc (.cells (List.replicate 32 (.int .u8 0)).toArray 22)) _
  rw [← HW.out]
  refine (HN.out w0).mono ?_
  rintro e w1 ⟨rfl, hg1⟩
  have HB1 := Lib.hid (HB0.out.kept hg1 (by simp))
  have HG1 := Lib.hid (HG0.out.trans hg1)
  clear hg1
  go_wp2_with fail
  refine (r2_Write0 s none none 0 0 w1).mono ?_
  rintro e w2 ⟨a', c', rfl, hg2⟩
  have HB2 := Lib.hid (HB1.out.kept hg2 (by simp))
  have HG2 := Lib.hid (HG1.out.trans hg2)
  clear hg2
  go_wp2_with fail
  refine (r2_Sum s a' c' w2).mono ?_
  rintro e w3 ⟨rfl, hg3⟩
  have HB3 := Lib.hid (HB2.out.kept hg3 (by simp))
  have HG3 := Lib.hid (HG2.out.trans hg3)
  clear hg3
  go_wp2_with (first
    | (refine wpList_store_blk rfl _ _ _ rfl w.heap.size (dCells (Sha.round (rootV true) s) 32) rfl rfl 22 _ HB3.out (by rw [info_32, dCells_length]) (by rw [dCells_length]; rfl) (dCells_one _ _) ?_; intro w6 hz6 hB6 hg6))
  exact bodyPost_ret (results_blk rfl _ _ w.heap.size 22 (dCells (Sha.round (rootV true) s) 32) _ rfl hB6 Tryz.underlying22 rfl (by rw [info_32, dCells_length])) rfl ⟨rfl, HG3.out.fresh hg6 (by simp)⟩

set_option maxRecDepth 100000 in
set_option maxHeartbeats 4000000 in
theorem r27_Empty' (w : World) :
    Calls Tryz.prog 48 #[] w fun e w' => e = .returned (.agg (dCells (Sha.round (rootV true) firstS) 32).toArray) ∧ Chg w w' [] := by
  obtain ⟨cs, hcs⟩ : ∃ cs, cs = dCells (Sha.round (rootV true) firstS) 32 := ⟨_, rfl⟩
  have HN : Hid (∀ w, Calls Tryz.prog 89 #[.slice none 0 0] w fun e w' => e = .returned (.agg cs.toArray) ∧ Chg w w' []) := by intro w; rw [hcs]; exact r2_OfNone w
  have hl : cs.length = 32 := by rw [hcs, dCells_length]
  have h1 : ∀ v ∈ cs, v.oneCell' = true := by rw [hcs]; exact dCells_one _ _
  rw [← hcs]
  have HL := Lib.hid hl
  have H1 := Lib.hid h1
  clear hcs hl h1
  have HB0 := Lib.hid (Blk.new w (List.replicate 32 (.int .u8 0)) 22)
  obtain ⟨w0, hw0⟩ : ∃ x, x = w.alloc (.cells (List.replicate 32 (.int .u8 0)).toArray 22) := ⟨_, rfl⟩
  have HG0 : Hid (Chg w w0 []) := by rw [hw0]; exact Lib.hid ((Chg.refl w []).alloc _)
  rw [← hw0] at HB0
  have HW := Lib.hid hw0
  clear hw0
  go_enter Tryz.func48, Tryz.ntmps48
  go_wp2_with fail
  change Calls _ _ _ (w.alloc (.cells (List.replicate 32 (.int .u8 0)).toArray 22)) _
  rw [← HW.out]
  refine (HN.out w0).mono ?_
  rintro e w1 ⟨rfl, hg1⟩
  have HB1 := Lib.hid (HB0.out.kept hg1 (by simp))
  have HG1 := Lib.hid (HG0.out.trans hg1)
  clear hg1
  go_wp2_with (first
    | (refine wpList_store_blk rfl _ _ _ rfl w.heap.size cs rfl rfl 22 _ HB1.out (by rw [info_32, HL.out]) (by rw [HL.out]; rfl) H1.out ?_; intro w6 hz6 hB6 hg6))
  exact bodyPost_ret (results_blk rfl _ _ w.heap.size 22 cs _ rfl hB6 Tryz.underlying22 rfl (by rw [info_32, HL.out])) rfl ⟨rfl, HG1.out.fresh hg6 (by simp)⟩

/-- the digest of nothing -/
def noD : List UInt8 := (List.range 32).map fun j => UInt8.ofNat (dg (Sha.round (rootV true) firstS) j).toNat

theorem noD_length : noD.length = 32 := by simp [noD]

theorem byV_of {x : Int} (h : 0 ≤ x ∧ x < 256) : byV (UInt8.ofNat x.toNat) = .int .u8 x := by
  unfold byV Extern.Stop.cell
  rw [UInt8.toNat_ofNat']
  congr 1
  show ((x.toNat % 2 ^ 8 : Nat) : Int) = x
  omega

theorem noD_cells : noD.map byV = dCells (Sha.round (rootV true) firstS) 32 := by
  apply List.ext_getElem?
  intro i
  by_cases hi : i < 32
  · rw [dCells_get hi, if_pos hi]
    unfold noD
    rw [List.map_map, List.getElem?_map, List.getElem?_range hi]
    have h : 0 ≤ dg (Sha.round (rootV true) firstS) i ∧ dg (Sha.round (rootV true) firstS) i < 256 := by unfold dg; omega
    exact congrArg some (byV_of h)
  · rw [List.getElem?_eq_none (by rw [List.length_map, noD_length]; omega), List.getElem?_eq_none (by rw [dCells_length]; omega)]

/-- the digest's tables as the program's text lays them -/
def Laid (w : World) : Prop := LaidS (rootV true) firstS w

theorem Laid.kept (w w' : World) (h : Laid w) (hg : Chg w w' []) : Laid w' := LaidS.kept h hg

theorem book_Empty (w : World) (h : Laid w) : Calls Tryz.prog 33 #[] w fun e w' => e = .returned (.agg (noD.map byV).toArray) ∧ Chg w w' [] := by
  rw [noD_cells]; exact book_Empty' _ _ w h

theorem r27_Empty (w : World) : Calls Tryz.prog 48 #[] w fun e w' => e = .returned (.agg (noD.map byV).toArray) ∧ Chg w w' [] := by
  rw [noD_cells]; exact r27_Empty' w

theorem witness_may (o : ByteArray) (n t : Int) (rb : List UInt8) (hr : rb.length = 32) (w : World) (hs : o.size ≤ 2147483648) (hl : Laid w) :
    Calls Tryz.prog 16 #[.agg (hdL o n rb t).toArray] w fun e w' => e = .returned (.bool (mayB (originB o) n t (rb == noD))) ∧ Chg w w' [] :=
  wit_may noD Laid Laid.kept book_Empty noD_length o n t rb hr w hs hl

theorem ref_HeadMay (o : ByteArray) (n t : Int) (rb : List UInt8) (hr : rb.length = 32) (w : World) (hs : o.size ≤ 2147483648) :
    Calls Tryz.prog 7 #[.agg (hdL o n rb t).toArray] w fun e w' => e = .returned (.bool (mayB (originB o) n t (rb == noD))) ∧ Chg w w' [] :=
  r30_HeadMay noD r27_Empty noD_length o n t rb hr w hs

theorem map_getD (f : Nat → Nat) (L : List Nat) (j : Nat) (h : j < L.length) : f (L.getD j 0) = (L.map f).getD j 0 := by
  rw [List.getD_eq_getElem?_getD, List.getD_eq_getElem?_getD, List.getElem?_map, List.getElem?_eq_getElem h]; rfl

theorem take_getD (L : List Nat) (j n : Nat) (h : j < n) : (L.take n).getD j 0 = L.getD j 0 := by
  rw [List.getD_eq_getElem?_getD, List.getD_eq_getElem?_getD, List.getElem?_take, if_pos h]

theorem rootV_K (j : Nat) (hj : j < 64) : rootV true j = ((KL.getD j 0 : Nat) : Int) := by
  unfold rootV
  rw [← eval_K]
  exact congrArg Int.ofNat (map_getD (fun p => rootN true p 40 % 4294967296) PL j (by rw [PL_length]; exact hj))

theorem mk_fn (g : Nat → Int) (j : Nat) (hj : j < 8) : (⟨g 0, g 1, g 2, g 3, g 4, g 5, g 6, g 7⟩ : Sha.St).fn j = g j := by
  have : j = 0 ∨ j = 1 ∨ j = 2 ∨ j = 3 ∨ j = 4 ∨ j = 5 ∨ j = 6 ∨ j = 7 := by omega
  rcases this with rfl | rfl | rfl | rfl | rfl | rfl | rfl | rfl <;> rfl

theorem rootV_F' (j : Nat) (hj : j < 8) : rootV false j = ((FL.getD j 0 : Nat) : Int) := by
  unfold rootV
  rw [← eval_F, ← take_getD PL j 8 hj]
  exact congrArg Int.ofNat (map_getD (fun p => rootN false p 40 % 4294967296) (PL.take 8) j (by rw [List.length_take, PL_length]; omega))

theorem rootV_F (j : Nat) (hj : j < 8) : firstS.fn j = ((FL.getD j 0 : Nat) : Int) := (mk_fn (rootV false) j hj).trans (rootV_F' j hj)
end Go.Proofs.YtfdhgakalojahaaGreatDoor

namespace Go.Proofs.YtfdhgakalojahaaGreatDoor
open Go Go.RowKit

set_option maxRecDepth 100000 in
theorem catch_panicking (p : Addr) (x : Value) (n : Int) (w : World) (hc : w.cell? p = some x) (hz : w.frozen? p = false) :
    CallsD Tryz.prog 69 #[.pointer (some p)] (.panicking [{ v := .iface 34 (.int .i64 n), recovered := false }]) w fun e u' w' =>
      e = .returned (.tuple #[]) ∧ u' = .panicking [{ v := .iface 34 (.int .i64 n), recovered := true }] ∧ w' = w.setCell p (.iface 34 (.int .i64 n)) := by
  have hta : ∀ (k : Int) (w : World), (Instr.typeAssert (.iface 34 (.int .i64 k)) 20 34 false).run Tryz.prog w = .ok (.int .i64 k) w := fun _ _ => by kernel_rfl
  refine callsD_of_wpS Tryz.func69 rfl fun c₀ cs hu => ?_
  apply wpS_seq
  apply wpS_region
  simp [wpOpsS, go_sem, recoverD, hu, Tryz.ntmps69, Exit.thenS]
  refine wpS_of_wp ?_
  simp [Array.replicate]
  go_wp2
  simp_all [bodyPostS, results, Tryz.results69]

theorem catch_idle (p : Addr) (w : World) :
    CallsD Tryz.prog 69 #[.pointer (some p)] .returning w fun e u' w' => e = .returned (.tuple #[]) ∧ u' = .returning ∧ w' = w := by
  refine callsD_of_wpS Tryz.func69 rfl fun c₀ cs hu => ?_
  apply wpS_seq
  apply wpS_region
  simp [wpOpsS, go_sem, recoverD, hu, Tryz.ntmps69, Exit.thenS]
  refine wpS_of_wp ?_
  simp [Array.replicate]
  go_wp2
  cases c₀
  simp_all [bodyPostS, results, Tryz.results69]
end Go.Proofs.YtfdhgakalojahaaGreatDoor

namespace Go.Proofs.YtfdhgakalojahaaGreatDoor
open Go Go.RowKit Tree

/-- the row behind a step that is done: the blocks of trees may have become more, by new ones -/
def DoPost (F : Nat → Prop) (T : TypeId) (b : Nat) (sv : Value) (l : List Tr) (w : World) (e : Ending) (w' : World) : Prop :=
  e = .returned .nilIface ∧ ∃ F' sv' vs', (∀ k, F k → F' k) ∧ (∀ k, F' k → k < w.heap.size → F k) ∧ MkAt w' F' T b sv' l vs' ∧ Chg w w' (b :: sv.ownBlock.toList)

/-- a step that is refused -/
def NoPost (w : World) (e : Ending) (w' : World) : Prop := (∃ n : Int, e = .returned (.iface 34 (.int .i64 n))) ∧ Chg w w' []

theorem MkAt.set {w : World} {F : Nat → Prop} {T : TypeId} {b : Nat} {sv : Value} {l : List Tr} {vs : List Value} (h : MkAt w F T b sv l vs) (p : Addr) (v : Value) (hb : p.block ≠ b) (hs : ∀ g, sv.ownBlock = some g → g ≠ p.block) (hF : ¬ F p.block) :
    MkAt (w.setCell p v) F T b sv l vs := by
  have hc : Chg w (w.setCell p v) [p.block] := (Chg.refl _ _).setCell _ _ (by simp)
  exact ⟨h.blk.set_other _ _ hb, h.lst.kept hc fun g hg hm => hs g hg (by simpa using hm), ItemsAt.kept (hc.keepsF h.lt fun k hk hf => hF (by simp at hk; subst hk; exact hf)) (fun _ h => h) l vs h.items, h.apart, h.apart',
    fun k hk => Nat.lt_of_lt_of_le (h.lt k hk) hc.size⟩

/-- the row is done with, and the named result is laid -/
theorem DoPost.done {F F' : Nat → Prop} {T : TypeId} {b : Nat} {sv : Value} {l : List Tr} {w w1 w2 : World} (h1 : Chg w w1 []) (h2 : MkPost F' T b sv l w1 w2) (hF : ∀ k, F k → F' k) (hF' : ∀ k, F' k → k < w.heap.size → F k)
    (hb : b < w.heap.size) (hs : ∀ g, sv.ownBlock = some g → g < w.heap.size) (k : Nat) (k1 : w.heap.size ≤ k) (k2 : k < w1.heap.size) (k3 : ¬ F' k) (v : Value) : DoPost F T b sv l w (.returned .nilIface) (w2.setCell ⟨k, 0, none⟩ v) := by
  obtain ⟨sv', vs', hM, hC, hg⟩ := h2
  refine ⟨rfl, F', sv', vs', hF, hF', hM.set _ _ (by simp; omega) (fun g h => ?_) k3, ((h1.none _).trans hC).setCell _ _ (by simp; omega)⟩
  have := h1.size
  rcases hg g h with h | h
  · have := hs g h; simp; omega
  · simp; omega

theorem MkPost.chg {F : Nat → Prop} {T : TypeId} {b : Nat} {sv : Value} {l : List Tr} {w w' : World} (h : MkPost F T b sv l w w') : Chg w w' (b :: sv.ownBlock.toList) := by
  obtain ⟨_, _, _, h, _⟩ := h; exact h

set_option maxRecDepth 100000 in
set_option maxHeartbeats 2000000 in
theorem node_do_text_ok (F : Nat → Prop) (T : TypeId) (b : Nat) (sv : Value) (l : List Tr) (vs : List Value) (s : ByteArray) (keys : Value) (w : World) (hM : MkAt w F T b sv l vs)
    (hk : ∃ ka kc, keys = .slice ka 0 kc) (hr : Utf.rightB s = true) (hw : (szT (.text s)).within = true) (hl : l.length ≤ 2147483648) (hs : s.size ≤ 2147483648) :
    Calls Tryz.prog 41 #[.pointer (some ⟨b, 0, none⟩), StpV 4 false 0 s 0 keys] w (DoPost F T b sv (l ++ [.text s]) w) := by
  obtain ⟨ka, kc, rfl⟩ := hk
  have hmf : ∀ (fn : Fn) (first cap : Array Value) (w : World), (Instr.makeFunc fn first cap).run Tryz.prog w = .ok (.func fn first cap) w := fun _ _ _ _ => rfl
  have hu : usedB 4 false 0 s 0 0 = true := by unfold usedB; simp
  have HMk := Lib.hid hM
  have HU := Lib.hid hu
  have HR := Lib.hid hr
  have HW := Lib.hid hw
  have HS0 := Lib.hid ((Blk.new w [.int .i64 4, .bool false, .int .u64 0, .string s, .int .i64 0, .slice ka 0 kc] 48).alloc (.cells #[.nilIface] 29))
  have HE0 := Lib.hid (Blk.new1 w (.cells [.int .i64 4, .bool false, .int .u64 0, .string s, .int .i64 0, .slice ka 0 kc].toArray 48) [.nilIface] 29)
  have hb := hM.blk.lt
  clear hM hu hr hw
  go_enter_defers Tryz.func41, Tryz.ntmps41
  unfold StpV
  go_wp2_with (first
    | (go_at_call 71; refine (node_used 4 false 0 s 0 ka 0 kc _).mono ?_; rintro e w1 ⟨rfl, hg1⟩; rw [HU.out]; have HS1 := Lib.hid (HS0.out.kept hg1 (by simp)); have HE1 := Lib.hid (HE0.out.kept hg1 (by simp)); obtain ⟨s1a, s1b, s10, s11, s12, s13, s14, s15⟩ := Blk.cells6 HS1.out; obtain ⟨e1a, e1b, e10⟩ := Blk.cells1 HE1.out)
    | (go_at_call 70; refine (node_refuse_ok _ _).mono ?_; rintro e w3 ⟨rfl, rfl⟩)
    | (go_at_call 54; refine (utf_Right s _ hs).mono ?_; rintro e w2 ⟨rfl, hg2⟩; rw [HR.out]; have HS2 := Lib.hid (HS1.out.kept hg2 (by simp)); have HE2 := Lib.hid (HE1.out.kept hg2 (by simp)); obtain ⟨s2a, s2b, s20, s21, s22, s23, s24, s25⟩ := Blk.cells6 HS2.out; obtain ⟨e2a, e2b, e20⟩ := Blk.cells1 HE2.out)
    | (go_at_call 72; go_loud (have hM2 := Lib.hid (HMk.out.kept ((((Chg.refl w []).alloc _).alloc _).trans (hg1.trans hg2))); refine (node_put_ok F T (.text s) _ b sv l vs _ hM2.out (by simp only [ItemAt]) HW.out hl).mono ?_; rintro e w4 ⟨rfl, hP⟩; have HP := Lib.hid hP; clear hP; have HE4 := Lib.hid (HE2.out.kept HP.out.chg (HMk.out.newNotIn (w.heap.size + 1) (by omega))); obtain ⟨e4a, e4b, e40⟩ := Blk.cells1 HE4.out)))
  refine leaves_cons (f := 69) (args := #[.pointer (some ⟨w.heap.size + 1, 0, none⟩)]) (by simp) (by simp [go_sem]) ?_
  refine (catch_idle ⟨w.heap.size + 1, 0, none⟩ _).mono ?_
  rintro e u' w'' ⟨rfl, rfl, rfl⟩
  have e50 : (w4.setCell ⟨w.heap.size + 1, 0, none⟩ .nilIface).cell? ⟨w.heap.size + 1, 0, none⟩ = some .nilIface := (HE4.out.set 0 _).cell 0
  simp [Leaves, settle, results, Tryz.results41, go_sem, e50]
  exact DoPost.done ((((Chg.refl w []).alloc _).alloc _).trans (hg1.trans hg2)) HP.out (fun _ h => h) (fun _ h _ => h) hb (fun g hg => HMk.out.lst.lt hg) _ (by omega) e2a (fun hf => by have := HMk.out.lt _ hf; omega) _
end Go.Proofs.YtfdhgakalojahaaGreatDoor

namespace Go.Proofs.YtfdhgakalojahaaGreatDoor
open Go Go.RowKit Tree

def normB (n : Nat) : Nat := if Fl.rung n = 0 then 0 else n

set_option maxRecDepth 100000 in
set_option maxHeartbeats 2000000 in
theorem node_do_num_ok (F : Nat → Prop) (T : TypeId) (b : Nat) (sv : Value) (l : List Tr) (vs : List Value) (n : Nat) (keys : Value) (w : World) (hM : MkAt w F T b sv l vs)
    (hk : ∃ ka kc, keys = .slice ka 0 kc) (hn : n < 18446744073709551616) (hf : Fl.finB n = true) (hl : l.length ≤ 2147483648) :
    Calls Tryz.prog 41 #[.pointer (some ⟨b, 0, none⟩), StpV 3 false n ⟨#[]⟩ 0 keys] w (DoPost F T b sv (l ++ [.num (normB n)]) w) := by
  obtain ⟨ka, kc, rfl⟩ := hk
  have hmf : ∀ (fn : Fn) (first cap : Array Value) (w : World), (Instr.makeFunc fn first cap).run Tryz.prog w = .ok (.func fn first cap) w := fun _ _ _ _ => rfl
  have hfb := run_frombits
  have hu : usedB 3 false n ⟨#[]⟩ 0 0 = true := by unfold usedB; simp
  have h1 : decide (9218868437227405312 < Fl.rung n) = false := by unfold Fl.finB at hf; simp at hf; simp; omega
  have h2 : decide (Fl.rung n = 9218868437227405312) = false := by unfold Fl.finB at hf; simp at hf; simp; omega
  have hw : (szT (.num (normB n))).within = true := rfl
  have HMk := Lib.hid hM
  have HU := Lib.hid hu
  have H1 := Lib.hid h1
  have H2 := Lib.hid h2
  have HN := Lib.hid hn
  have HW := Lib.hid hw
  have HS0 := Lib.hid ((Blk.new w [.int .i64 3, .bool false, .int .u64 n, .string ⟨#[]⟩, .int .i64 0, .slice ka 0 kc] 48).alloc (.cells #[.nilIface] 29))
  have HE0 := Lib.hid (Blk.new1 w (.cells [.int .i64 3, .bool false, .int .u64 n, .string ⟨#[]⟩, .int .i64 0, .slice ka 0 kc].toArray 48) [.nilIface] 29)
  have hb := hM.blk.lt
  clear hM hu hw h1 h2 hn hf
  by_cases hz : Fl.rung n = 0
  · have hz' : (FloatKind.f64.format.order n 0 == some .eq) = true := by rw [show FloatKind.f64.format = Ieee.double from rfl, Fl.isZero_iff]; simpa using hz
    have HV : Hid (normB n = 0) := by unfold Hid normB; rw [if_pos hz]
    clear hz
    go_enter_defers Tryz.func41, Tryz.ntmps41
    unfold StpV
    go_wp2_with (first
      | (go_at_call 71; refine (node_used 3 false n ⟨#[]⟩ 0 ka 0 kc _).mono ?_; rintro e w1 ⟨rfl, hg1⟩; rw [HU.out]; have HS1 := Lib.hid (HS0.out.kept hg1 (by simp)); have HE1 := Lib.hid (HE0.out.kept hg1 (by simp)); obtain ⟨s1a, s1b, s10, s11, s12, s13, s14, s15⟩ := Blk.cells6 HS1.out; obtain ⟨e1a, e1b, e10⟩ := Blk.cells1 HE1.out)
      | (go_at_call 70; refine (node_refuse_ok _ _).mono ?_; rintro e w3 ⟨rfl, rfl⟩)
      | (go_at_call 74; refine (math_IsNaN' n _).mono ?_; rintro e w3 ⟨rfl, rfl⟩; rw [H1.out])
      | (go_at_call 75; refine (math_IsInf' n HN.out _).mono ?_; rintro e w3 ⟨rfl, rfl⟩; rw [H2.out])
      | (go_at_call 72; have hM2 := Lib.hid (HMk.out.kept ((((Chg.refl w []).alloc _).alloc _).trans hg1)); refine (node_put_ok F T (.num (normB n)) _ b sv l vs _ hM2.out (by simp only [ItemAt]; rw [HV.out]) HW.out hl).mono ?_; rintro e w4 ⟨rfl, hP⟩; have HP := Lib.hid hP; clear hP; have HE4 := Lib.hid (HE1.out.kept HP.out.chg (HMk.out.newNotIn (w.heap.size + 1) (by omega))); obtain ⟨e4a, e4b, e40⟩ := Blk.cells1 HE4.out))
    refine leaves_cons (f := 69) (args := #[.pointer (some ⟨w.heap.size + 1, 0, none⟩)]) (by simp) (by simp [go_sem]) ?_
    refine (catch_idle ⟨w.heap.size + 1, 0, none⟩ _).mono ?_
    rintro e u' w'' ⟨rfl, rfl, rfl⟩
    have e50 : (w4.setCell ⟨w.heap.size + 1, 0, none⟩ .nilIface).cell? ⟨w.heap.size + 1, 0, none⟩ = some .nilIface := (HE4.out.set 0 _).cell 0
    simp [Leaves, settle, results, Tryz.results41, go_sem, e50]
    exact DoPost.done ((((Chg.refl w []).alloc _).alloc _).trans hg1) HP.out (fun _ h => h) (fun _ h _ => h) hb (fun g hg => HMk.out.lst.lt hg) _ (by omega) e1a (fun hf => by have := HMk.out.lt _ hf; omega) _
  · have hz' : (FloatKind.f64.format.order n 0 == some .eq) = false := by rw [show FloatKind.f64.format = Ieee.double from rfl, Fl.isZero_iff]; simpa using hz
    have HV : Hid (normB n = n) := by unfold Hid normB; rw [if_neg hz]
    clear hz
    go_enter_defers Tryz.func41, Tryz.ntmps41
    unfold StpV
    go_wp2_with (first
      | (go_at_call 71; refine (node_used 3 false n ⟨#[]⟩ 0 ka 0 kc _).mono ?_; rintro e w1 ⟨rfl, hg1⟩; rw [HU.out]; have HS1 := Lib.hid (HS0.out.kept hg1 (by simp)); have HE1 := Lib.hid (HE0.out.kept hg1 (by simp)); obtain ⟨s1a, s1b, s10, s11, s12, s13, s14, s15⟩ := Blk.cells6 HS1.out; obtain ⟨e1a, e1b, e10⟩ := Blk.cells1 HE1.out)
      | (go_at_call 70; refine (node_refuse_ok _ _).mono ?_; rintro e w3 ⟨rfl, rfl⟩)
      | (go_at_call 74; refine (math_IsNaN' n _).mono ?_; rintro e w3 ⟨rfl, rfl⟩; rw [H1.out])
      | (go_at_call 75; refine (math_IsInf' n HN.out _).mono ?_; rintro e w3 ⟨rfl, rfl⟩; rw [H2.out])
      | (go_at_call 72; have hM2 := Lib.hid (HMk.out.kept ((((Chg.refl w []).alloc _).alloc _).trans hg1)); refine (node_put_ok F T (.num (normB n)) _ b sv l vs _ hM2.out (by simp only [ItemAt]; rw [HV.out]) HW.out hl).mono ?_; rintro e w4 ⟨rfl, hP⟩; have HP := Lib.hid hP; clear hP; have HE4 := Lib.hid (HE1.out.kept HP.out.chg (HMk.out.newNotIn (w.heap.size + 1) (by omega))); obtain ⟨e4a, e4b, e40⟩ := Blk.cells1 HE4.out))
    refine leaves_cons (f := 69) (args := #[.pointer (some ⟨w.heap.size + 1, 0, none⟩)]) (by simp) (by simp [go_sem]) ?_
    refine (catch_idle ⟨w.heap.size + 1, 0, none⟩ _).mono ?_
    rintro e u' w'' ⟨rfl, rfl, rfl⟩
    have e50 : (w4.setCell ⟨w.heap.size + 1, 0, none⟩ .nilIface).cell? ⟨w.heap.size + 1, 0, none⟩ = some .nilIface := (HE4.out.set 0 _).cell 0
    simp [Leaves, settle, results, Tryz.results41, go_sem, e50]
    exact DoPost.done ((((Chg.refl w []).alloc _).alloc _).trans hg1) HP.out (fun _ h => h) (fun _ h _ => h) hb (fun g hg => HMk.out.lst.lt hg) _ (by omega) e1a (fun hf => by have := HMk.out.lt _ hf; omega) _
end Go.Proofs.YtfdhgakalojahaaGreatDoor

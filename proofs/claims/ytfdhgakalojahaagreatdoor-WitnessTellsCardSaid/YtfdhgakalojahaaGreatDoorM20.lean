/- WALKS: the program's layer 2: the digest of nothing. WALKS: the program's layer 6: a digest out of letters. -/
import Derived.Test.YtfdhgakalojahaaGreatDoorM19
import Derived.Test.YtfdhgakalojahaaGreatDoorM11
import Derived.Laws.Cover3
import Derived.Test.YtfdhgakalojahaaGreatDoorM17
import Derived.Test.YtfdhgakalojahaaGreatDoorM03
set_option linter.unusedSimpArgs false
set_option linter.unusedVariables false
set_option linter.unnecessarySimpa false
set_option linter.unusedSectionVars false
namespace Go.Proofs.YtfdhgakalojahaaGreatDoor
open Go Go.RowKit

set_option maxRecDepth 100000 in
set_option maxHeartbeats 4000000 in
theorem sha_New (f : Sha.St) (w : World) (hF : ∀ j, j < 8 → w.cell? ⟨1, j, none⟩ = some (.int .u32 (f.fn j))) :
    Calls Tryz.prog 96 #[] w fun e w' => e = .returned (.pointer (some ⟨w.heap.size, 0, none⟩)) ∧ Chg w w' [] ∧ Blk w' w.heap.size (HC f 0 (.slice none 0 0)) 221 := by
  obtain ⟨a0, a1, a2, a3, a4, a5, a6, a7⟩ := f
  have q0 : w.cell? ⟨1, 0, none⟩ = some (.int .u32 a0) := hF 0 (by omega)
  have q1 : w.cell? ⟨1, 1, none⟩ = some (.int .u32 a1) := hF 1 (by omega)
  have q2 : w.cell? ⟨1, 2, none⟩ = some (.int .u32 a2) := hF 2 (by omega)
  have q3 : w.cell? ⟨1, 3, none⟩ = some (.int .u32 a3) := hF 3 (by omega)
  have q4 : w.cell? ⟨1, 4, none⟩ = some (.int .u32 a4) := hF 4 (by omega)
  have q5 : w.cell? ⟨1, 5, none⟩ = some (.int .u32 a5) := hF 5 (by omega)
  have q6 : w.cell? ⟨1, 6, none⟩ = some (.int .u32 a6) := hF 6 (by omega)
  have q7 : w.cell? ⟨1, 7, none⟩ = some (.int .u32 a7) := hF 7 (by omega)
  clear hF
  go_enter Tryz.func96, Tryz.ntmps96
  go_wp2
  go_ret
  exact ⟨rfl, (Chg.refl w []).alloc _, Blk.new _ (HC ⟨a0, a1, a2, a3, a4, a5, a6, a7⟩ 0 (.slice none 0 0)) _⟩

/-- the laid variables of the digest -/
def LaidS (K : Nat → Int) (f : Sha.St) (w : World) : Prop := (∀ j, j < 64 → w.cell? ⟨2, j, none⟩ = some (.int .u32 (K j))) ∧ (∀ j, j < 8 → w.cell? ⟨1, j, none⟩ = some (.int .u32 (f.fn j)))

theorem LaidS.kept {K : Nat → Int} {f : Sha.St} {w w' : World} (h : LaidS K f w) (hg : Chg w w' []) : LaidS K f w' := ⟨fun j hj => hg.keeps (h.1 j hj), fun j hj => hg.keeps (h.2 j hj)⟩

theorem r32_one : ∀ v ∈ List.replicate 32 (Value.int .u8 0), v.oneCell' = true := by
  intro v hv
  rw [(List.mem_replicate.1 hv).2]; rfl

set_option maxRecDepth 100000 in
set_option maxHeartbeats 4000000 in
theorem sha_SumNone (K : Nat → Int) (f : Sha.St) (w : World) (hL : LaidS K f w) :
    Calls Tryz.prog 57 #[.slice none 0 0] w fun e w' => e = .returned (.agg (dCells (Sha.round K f) 32).toArray) ∧ Chg w w' [] := by
  have HL := Lib.hid hL
  have HB0 := Lib.hid (Blk.new w (List.replicate 32 (.int .u8 0)) 23)
  have HL0 := Lib.hid (hL.kept ((Chg.refl w []).alloc (.cells (List.replicate 32 (.int .u8 0)).toArray 23)))
  obtain ⟨w0, hw0⟩ : ∃ x, x = w.alloc (.cells (List.replicate 32 (.int .u8 0)).toArray 23) := ⟨_, rfl⟩
  have HG0 : Hid (Chg w w0 []) := by rw [hw0]; exact Lib.hid ((Chg.refl w []).alloc _)
  rw [← hw0] at HB0 HL0
  have HW := Lib.hid hw0
  clear hw0 hL
  go_enter Tryz.func57, Tryz.ntmps57
  go_wp2_with fail
  change Calls _ _ _ (w.alloc (.cells (List.replicate 32 (.int .u8 0)).toArray 23)) _
  rw [← HW.out]
  refine (sha_New f w0 HL0.out.2).mono ?_
  rintro e w1 ⟨rfl, hg1, hB1⟩
  have HB1 := Lib.hid (HB0.out.kept hg1 (by simp))
  have HL1 := Lib.hid (HL0.out.kept hg1)
  have HG1 := Lib.hid (HG0.out.trans hg1)
  have HH1 := Lib.hid hB1
  have hbl := HB0.out.lt
  obtain ⟨X, hX⟩ : ∃ X, X = w0.heap.size := ⟨_, rfl⟩
  rw [← hX] at HH1 hbl ⊢
  clear hX hg1 hB1 HB0 HL0 HG0
  go_wp2_with fail
  refine wp_loop_rounds 1 ?_
  rw [rounds_succ]
  go_wp2_with fail
  refine (sha_Sum K X f w1 HH1.out HL1.out.1).mono ?_
  rintro e w2 ⟨rfl, hg2⟩
  have HB2 := Lib.hid (HB1.out.kept hg2 (by simp))
  have HG2 := Lib.hid (HG1.out.trans hg2)
  clear hg2
  go_wp2_with (first
    | (refine wpList_store_blk rfl _ _ _ rfl w.heap.size (dCells (Sha.round K f) 32) rfl rfl 23 _ HB2.out (by rw [info_dg5, dCells_length]) (by rw [dCells_length]; rfl) (dCells_one _ _) ?_; intro w6 hz6 hB6 hg6))
  exact bodyPost_ret (results_blk rfl _ _ w.heap.size 23 (dCells (Sha.round K f) 32) _ rfl hB6 Tryz.underlying23 rfl (by rw [info_dg5, dCells_length])) rfl ⟨rfl, HG2.out.fresh hg6 (by simp)⟩

set_option maxRecDepth 100000 in
set_option maxHeartbeats 4000000 in
theorem book_Empty' (K : Nat → Int) (f : Sha.St) (w : World) (hL : LaidS K f w) :
    Calls Tryz.prog 33 #[] w fun e w' => e = .returned (.agg (dCells (Sha.round K f) 32).toArray) ∧ Chg w w' [] := by
  have HB0 := Lib.hid (Blk.new w (List.replicate 32 (.int .u8 0)) 23)
  have HL0 := Lib.hid (hL.kept ((Chg.refl w []).alloc (.cells (List.replicate 32 (.int .u8 0)).toArray 23)))
  obtain ⟨w0, hw0⟩ : ∃ x, x = w.alloc (.cells (List.replicate 32 (.int .u8 0)).toArray 23) := ⟨_, rfl⟩
  have HG0 : Hid (Chg w w0 []) := by rw [hw0]; exact Lib.hid ((Chg.refl w []).alloc _)
  rw [← hw0] at HB0 HL0
  have HW := Lib.hid hw0
  clear hw0 hL
  go_enter Tryz.func33, Tryz.ntmps33
  go_wp2_with fail
  change Calls _ _ _ (w.alloc (.cells (List.replicate 32 (.int .u8 0)).toArray 23)) _
  rw [← HW.out]
  refine (sha_SumNone K f w0 HL0.out).mono ?_
  rintro e w1 ⟨rfl, hg1⟩
  have HB1 := Lib.hid (HB0.out.kept hg1 (by simp))
  have HG1 := Lib.hid (HG0.out.trans hg1)
  clear hg1
  go_wp2_with (first
    | (refine wpList_store_blk rfl _ _ _ rfl w.heap.size (dCells (Sha.round K f) 32) rfl rfl 23 _ HB1.out (by rw [info_dg5, dCells_length]) (by rw [dCells_length]; rfl) (dCells_one _ _) ?_; intro w6 hz6 hB6 hg6))
  exact bodyPost_ret (results_blk rfl _ _ w.heap.size 23 (dCells (Sha.round K f) 32) _ rfl hB6 Tryz.underlying23 rfl (by rw [info_dg5, dCells_length])) rfl ⟨rfl, HG1.out.fresh hg6 (by simp)⟩
end Go.Proofs.YtfdhgakalojahaaGreatDoor

namespace Go.Proofs.YtfdhgakalojahaaGreatDoor
open Go Go.RowKit

theorem results_blk_tmp {P : Program} {fn : Func} {p q : Tmp} {ty : TypeId} (h : fn.results = #[.cell p ty, .tmp q]) (tmps : Array Value) (w : World) (g : Nat) (T : TypeId) (cs : List Value) (d : TypeDesc)
    (hp : tmps.getD p undef = .pointer (some ⟨g, 0, none⟩)) (hB : Blk w g cs T)
    (hu : P.underlying ty = some d) (hd : (match d with | .struct _ | .array _ _ => true | _ => false) = true) (hi : (P.info? ty).map (·.size) = some cs.length) :
    (results fn tmps).run P w = .ok (.tuple #[.agg cs.toArray, tmps.getD q undef]) w := by
  have hp' : tmps[p]?.getD undef = .pointer (some ⟨g, 0, none⟩) := by simpa using hp
  have hrow := run_loadVar_row (P := P) w g T ty cs.toArray (0, 0) d hB hu hd (by simpa using hi)
  simp [results, h, hp', asAddr, hrow]

def zer32 : List Value := List.replicate 32 (.int .u8 0)
theorem zer32_length : zer32.length = 32 := rfl
theorem zer32_one : ∀ v ∈ zer32, v.oneCell' = true := by
  intro v hv
  rw [(List.mem_replicate.1 hv).2]; rfl

theorem unhexV_one (s : ByteArray) (k : Nat) : ∀ v ∈ unhexV s k, v.oneCell' = true := by
  intro v hv
  obtain ⟨j, _, rfl⟩ := List.mem_map.1 hv
  rfl

/-- are these the letters of a digest? -/
def digOK (s : ByteArray) : Bool := hexOK s && decide (s.size = 64)

def DigPost (s : ByteArray) (w : World) (e : Ending) (w' : World) : Prop :=
  Chg w w' [] ∧ ((digOK s = true ∧ e = .returned (.tuple #[.agg (unhexV s 32).toArray, .nilIface])) ∨ (digOK s = false ∧ ∃ ti x, e = .returned (.tuple #[.agg zer32.toArray, .iface ti x])))

set_option maxRecDepth 100000 in
set_option maxHeartbeats 4000000 in
theorem base_ToDigest (s : ByteArray) (hs : s.size ≤ 2147483648) (w : World) :
    Calls Tryz.prog 32 #[.string s] w (DigPost s w) := by
  obtain ⟨w0, hw0⟩ : ∃ x, x = w.alloc (.cells zer32.toArray 23) := ⟨_, rfl⟩
  have HB0 : Hid (Blk w0 w.heap.size zer32 23) := by rw [hw0]; exact Lib.hid (Blk.new _ _ _)
  have HG0 : Hid (Chg w w0 []) := by rw [hw0]; exact Lib.hid ((Chg.refl w []).alloc _)
  have HW := Lib.hid hw0
  clear hw0
  go_enter Tryz.func32, Tryz.ntmps32
  go_wp2_with fail
  change Calls _ _ _ (w.alloc (.cells zer32.toArray 23)) _
  rw [← HW.out]
  refine (base_Read_hex s hs w0).mono ?_
  rintro e w1 ⟨sl, er, rfl, hg1, h⟩
  have HB1 := Lib.hid (HB0.out.kept hg1 (by simp))
  have HG1 := Lib.hid (HG0.out.trans hg1)
  clear hg1
  rcases h with ⟨hok, rfl, hL, hO⟩ | ⟨hno, rfl, ti, x, rfl⟩
  · obtain ⟨a, cap, rfl, ha⟩ := hL.form
    have hvl := unhexV_length s (s.size / 2)
    by_cases h64 : s.size / 2 = 32
    · have hev : s.size = 64 := by
        unfold hexOK at hok
        simp only [Bool.and_eq_true, decide_eq_true_eq] at hok
        omega
      rw [h64] at hL ha hvl ⊢
      obtain ⟨g, rfl⟩ := ha (by intro h; rw [h] at hvl; simp at hvl)
      have hrg : w1.rangeAt g 0 (unhexV s 32) := fun j v hv => by rw [Nat.zero_add]; exact hL.cell rfl j v hv
      have HRG := Lib.hid hrg
      have hd : digOK s = true := by unfold digOK; rw [hok, hev]; rfl
      have HD := Lib.hid hd
      rw [hvl]
      have harr : ∀ w, (Instr.arrayAt 23 (.slice (some ⟨g, 0, none⟩) 32 cap)).run Tryz.prog w = .ok (.pointer (some ⟨g, 0, none⟩)) w := fun w => run_arrayAt w 23 5 32 _ 32 cap Tryz.underlying23 (Nat.le_refl _)
      clear hok hL hO hvl h64 hev hrg hd ha
      go_wp2_with (first
        | (refine wpList_load_mid rfl _ _ rfl g 0 rfl (unhexV s 32) _ HRG.out Tryz.underlying23 rfl (by rw [info_dg5, unhexV_length]) ?_)
        | (refine wpList_store_blk rfl _ _ _ rfl w.heap.size (unhexV s 32) rfl rfl 23 _ HB1.out (by rw [info_dg5, unhexV_length]) (by rw [unhexV_length]; rfl) (unhexV_one _ _) ?_; intro w6 hz6 hB6 hg6; have HB6 := Lib.hid hB6; have HG6 := Lib.hid hg6; clear hB6 hg6 hz6))
      exact bodyPost_ret (results_blk_tmp rfl _ _ w.heap.size 23 (unhexV s 32) _ rfl HB6.out Tryz.underlying23 rfl (by rw [info_dg5, unhexV_length])) rfl ⟨HG1.out.fresh HG6.out (by simp), .inl ⟨HD.out, rfl⟩⟩
    · have hd : digOK s = false := by unfold digOK; rw [decide_eq_false (by omega)]; simp
      have HD := Lib.hid hd
      have d32 : ((s.size / 2 : Nat) : Int) ≠ 32 := by omega
      rw [hvl]
      obtain ⟨m, hm⟩ : ∃ m, m = s.size / 2 := ⟨_, rfl⟩
      rw [← hm] at d32 ⊢
      have dd : ((m : Int) == 32) = false := by simp; omega
      clear hok hL hO hvl h64 hd ha hm d32
      go_wp2_with (first
        | (refine wpList_store_blk rfl _ _ _ rfl w.heap.size zer32 rfl rfl 23 _ HB1.out (by rw [info_dg5, zer32_length]) rfl zer32_one ?_; intro w6 hz6 hB6 hg6; have HB6 := Lib.hid hB6; have HG6 := Lib.hid hg6; clear hB6 hg6 hz6))
      exact bodyPost_ret (results_blk_tmp rfl _ _ w.heap.size 23 zer32 _ rfl HB6.out Tryz.underlying23 rfl (by rw [info_dg5, zer32_length])) rfl ⟨HG1.out.fresh HG6.out (by simp), .inr ⟨HD.out, _, _, rfl⟩⟩
  · have hd : digOK s = false := by unfold digOK; rw [hno]; rfl
    have HD := Lib.hid hd
    clear hno hd
    go_wp2_with (first
      | (refine wpList_store_blk rfl _ _ _ rfl w.heap.size zer32 rfl rfl 23 _ HB1.out (by rw [info_dg5, zer32_length]) rfl zer32_one ?_; intro w6 hz6 hB6 hg6; have HB6 := Lib.hid hB6; have HG6 := Lib.hid hg6; clear hB6 hg6 hz6))
    exact bodyPost_ret (results_blk_tmp rfl _ _ w.heap.size 23 zer32 _ rfl HB6.out Tryz.underlying23 rfl (by rw [info_dg5, zer32_length])) rfl ⟨HG1.out.fresh HG6.out (by simp), .inr ⟨HD.out, _, _, rfl⟩⟩
end Go.Proofs.YtfdhgakalojahaaGreatDoor

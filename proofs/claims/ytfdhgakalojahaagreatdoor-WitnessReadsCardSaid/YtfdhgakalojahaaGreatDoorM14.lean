/- WALKS: the program's layer 2: the digest of nothing. WALKS: the program's layer 6: a digest out of letters. DERIVED: THE SHELF's CONTRACTS AT THIS DUMP, IN PLAIN WORDS (tools/lay-plain.mjs out of 'YtfdhgakalojahaaGreatDoorLayT.lean', which tools/lay-shelf.mjs wrote): THE SAME DECLARATIONS UNDER THE SAME NAMES: 'import', 'namespace', 'open', 'def', 'theorem' AND NOTHING ELSE: no command of the shelf's: FOR A HAND-IN. Each laying: the table of numbers ('.._ren') and one theorem, a field a fact of the dump's own or the kernel's comparison; each contract: ONE APPLICATION. -/
import Derived.Test.YtfdhgakalojahaaGreatDoorM13
import Derived.Test.YtfdhgakalojahaaGreatDoorM07
import Derived.Laws.Cover3
import Derived.Test.YtfdhgakalojahaaGreatDoorM10
import Derived.Test.YtfdhgakalojahaaGreatDoorM03
import Derived.Test.YtfdhgakalojahaaGreatDoorRows
import Derived.Shelf.SlSortCmp.NoneTotal
import Derived.Shelf.Bits.Mul64
import Derived.Ground.NamesProg
import Derived.Shelf.SlGeneric
import Derived.Ground.SlsfProg
import Derived.WalkKit
set_option linter.unusedSimpArgs false
set_option linter.unusedVariables false
set_option linter.unnecessarySimpa false
set_option linter.unusedSectionVars false
namespace Go.Proofs.YtfdhgakalojahaaGreatDoor
open Go Go.RowKit

set_option maxRecDepth 100000 in
set_option maxHeartbeats 4000000 in
theorem sha_New (f : Sha.St) (w : World) (hF : ∀ j, j < 8 → w.cell? ⟨1, j, none⟩ = some (.int .u32 (f.fn j))) :
    Calls Tryz.prog 96 #[] w fun e w' => e = .returned (.pointer (some ⟨w.heap.size, 0, none⟩)) ∧ Chg w w' [] ∧ Blk w' w.heap.size (HC f 0 (.slice none 0 0)) 221 := by
  obtain ⟨a0, a1, a2, a3, a4, a5, a6, a7⟩ := f
  have q0 : w.cell? ⟨1, 0, none⟩ = some (.int .u32 a0) := hF 0 (by omega)
  have q1 : w.cell? ⟨1, 1, none⟩ = some (.int .u32 a1) := hF 1 (by omega)
  have q2 : w.cell? ⟨1, 2, none⟩ = some (.int .u32 a2) := hF 2 (by omega)
  have q3 : w.cell? ⟨1, 3, none⟩ = some (.int .u32 a3) := hF 3 (by omega)
  have q4 : w.cell? ⟨1, 4, none⟩ = some (.int .u32 a4) := hF 4 (by omega)
  have q5 : w.cell? ⟨1, 5, none⟩ = some (.int .u32 a5) := hF 5 (by omega)
  have q6 : w.cell? ⟨1, 6, none⟩ = some (.int .u32 a6) := hF 6 (by omega)
  have q7 : w.cell? ⟨1, 7, none⟩ = some (.int .u32 a7) := hF 7 (by omega)
  clear hF
  go_enter Tryz.func96, Tryz.ntmps96
  go_wp2
  go_ret
  exact ⟨rfl, (Chg.refl w []).alloc _, Blk.new _ (HC ⟨a0, a1, a2, a3, a4, a5, a6, a7⟩ 0 (.slice none 0 0)) _⟩

/-- the laid variables of the digest -/
def LaidS (K : Nat → Int) (f : Sha.St) (w : World) : Prop := (∀ j, j < 64 → w.cell? ⟨2, j, none⟩ = some (.int .u32 (K j))) ∧ (∀ j, j < 8 → w.cell? ⟨1, j, none⟩ = some (.int .u32 (f.fn j)))

theorem LaidS.kept {K : Nat → Int} {f : Sha.St} {w w' : World} (h : LaidS K f w) (hg : Chg w w' []) : LaidS K f w' := ⟨fun j hj => hg.keeps (h.1 j hj), fun j hj => hg.keeps (h.2 j hj)⟩

theorem r32_one : ∀ v ∈ List.replicate 32 (Value.int .u8 0), v.oneCell' = true := by
  intro v hv
  rw [(List.mem_replicate.1 hv).2]; rfl

set_option maxRecDepth 100000 in
set_option maxHeartbeats 4000000 in
theorem sha_SumNone (K : Nat → Int) (f : Sha.St) (w : World) (hL : LaidS K f w) :
    Calls Tryz.prog 57 #[.slice none 0 0] w fun e w' => e = .returned (.agg (dCells (Sha.round K f) 32).toArray) ∧ Chg w w' [] := by
  have HL := Lib.hid hL
  have HB0 := Lib.hid (Blk.new w (List.replicate 32 (.int .u8 0)) 23)
  have HL0 := Lib.hid (hL.kept ((Chg.refl w []).alloc (.cells (List.replicate 32 (.int .u8 0)).toArray 23)))
  obtain ⟨w0, hw0⟩ : ∃ x, x = w.alloc (.cells (List.replicate 32 (.int .u8 0)).toArray 23) := ⟨_, rfl⟩
  have HG0 : Hid (Chg w w0 []) := by rw [hw0]; exact Lib.hid ((Chg.refl w []).alloc _)
  rw [← hw0] at HB0 HL0
  have HW := Lib.hid hw0
  clear hw0 hL
  go_enter Tryz.func57, Tryz.ntmps57
  go_wp2_with fail
  change Calls _ _ _ (w.alloc (.cells (List.replicate 32 (.int .u8 0)).toArray 23)) _
  rw [← HW.out]
  refine (sha_New f w0 HL0.out.2).mono ?_
  rintro e w1 ⟨rfl, hg1, hB1⟩
  have HB1 := Lib.hid (HB0.out.kept hg1 (by simp))
  have HL1 := Lib.hid (HL0.out.kept hg1)
  have HG1 := Lib.hid (HG0.out.trans hg1)
  have HH1 := Lib.hid hB1
  have hbl := HB0.out.lt
  obtain ⟨X, hX⟩ : ∃ X, X = w0.heap.size := ⟨_, rfl⟩
  rw [← hX] at HH1 hbl ⊢
  clear hX hg1 hB1 HB0 HL0 HG0
  go_wp2_with fail
  refine wp_loop_rounds 1 ?_
  rw [rounds_succ]
  go_wp2_with fail
  refine (sha_Sum K X f w1 HH1.out HL1.out.1).mono ?_
  rintro e w2 ⟨rfl, hg2⟩
  have HB2 := Lib.hid (HB1.out.kept hg2 (by simp))
  have HG2 := Lib.hid (HG1.out.trans hg2)
  clear hg2
  go_wp2_with (first
    | (refine wpList_store_blk rfl _ _ _ rfl w.heap.size (dCells (Sha.round K f) 32) rfl rfl 23 _ HB2.out (by rw [info_dg5, dCells_length]) (by rw [dCells_length]; rfl) (dCells_one _ _) ?_; intro w6 hz6 hB6 hg6))
  exact bodyPost_ret (results_blk rfl _ _ w.heap.size 23 (dCells (Sha.round K f) 32) _ rfl hB6 Tryz.underlying23 rfl (by rw [info_dg5, dCells_length])) rfl ⟨rfl, HG2.out.fresh hg6 (by simp)⟩

set_option maxRecDepth 100000 in
set_option maxHeartbeats 4000000 in
theorem book_Empty' (K : Nat → Int) (f : Sha.St) (w : World) (hL : LaidS K f w) :
    Calls Tryz.prog 33 #[] w fun e w' => e = .returned (.agg (dCells (Sha.round K f) 32).toArray) ∧ Chg w w' [] := by
  have HB0 := Lib.hid (Blk.new w (List.replicate 32 (.int .u8 0)) 23)
  have HL0 := Lib.hid (hL.kept ((Chg.refl w []).alloc (.cells (List.replicate 32 (.int .u8 0)).toArray 23)))
  obtain ⟨w0, hw0⟩ : ∃ x, x = w.alloc (.cells (List.replicate 32 (.int .u8 0)).toArray 23) := ⟨_, rfl⟩
  have HG0 : Hid (Chg w w0 []) := by rw [hw0]; exact Lib.hid ((Chg.refl w []).alloc _)
  rw [← hw0] at HB0 HL0
  have HW := Lib.hid hw0
  clear hw0 hL
  go_enter Tryz.func33, Tryz.ntmps33
  go_wp2_with fail
  change Calls _ _ _ (w.alloc (.cells (List.replicate 32 (.int .u8 0)).toArray 23)) _
  rw [← HW.out]
  refine (sha_SumNone K f w0 HL0.out).mono ?_
  rintro e w1 ⟨rfl, hg1⟩
  have HB1 := Lib.hid (HB0.out.kept hg1 (by simp))
  have HG1 := Lib.hid (HG0.out.trans hg1)
  clear hg1
  go_wp2_with (first
    | (refine wpList_store_blk rfl _ _ _ rfl w.heap.size (dCells (Sha.round K f) 32) rfl rfl 23 _ HB1.out (by rw [info_dg5, dCells_length]) (by rw [dCells_length]; rfl) (dCells_one _ _) ?_; intro w6 hz6 hB6 hg6))
  exact bodyPost_ret (results_blk rfl _ _ w.heap.size 23 (dCells (Sha.round K f) 32) _ rfl hB6 Tryz.underlying23 rfl (by rw [info_dg5, dCells_length])) rfl ⟨rfl, HG1.out.fresh hg6 (by simp)⟩
end Go.Proofs.YtfdhgakalojahaaGreatDoor

namespace Go.Proofs.YtfdhgakalojahaaGreatDoor
open Go Go.RowKit

theorem results_blk_tmp {P : Program} {fn : Func} {p q : Tmp} {ty : TypeId} (h : fn.results = #[.cell p ty, .tmp q]) (tmps : Array Value) (w : World) (g : Nat) (T : TypeId) (cs : List Value) (d : TypeDesc)
    (hp : tmps.getD p undef = .pointer (some ⟨g, 0, none⟩)) (hB : Blk w g cs T)
    (hu : P.underlying ty = some d) (hd : (match d with | .struct _ | .array _ _ => true | _ => false) = true) (hi : (P.info? ty).map (·.size) = some cs.length) :
    (results fn tmps).run P w = .ok (.tuple #[.agg cs.toArray, tmps.getD q undef]) w := by
  have hp' : tmps[p]?.getD undef = .pointer (some ⟨g, 0, none⟩) := by simpa using hp
  have hrow := run_loadVar_row (P := P) w g T ty cs.toArray (0, 0) d hB hu hd (by simpa using hi)
  simp [results, h, hp', asAddr, hrow]

def zer32 : List Value := List.replicate 32 (.int .u8 0)
theorem zer32_length : zer32.length = 32 := rfl
theorem zer32_one : ∀ v ∈ zer32, v.oneCell' = true := by
  intro v hv
  rw [(List.mem_replicate.1 hv).2]; rfl

theorem unhexV_one (s : ByteArray) (k : Nat) : ∀ v ∈ unhexV s k, v.oneCell' = true := by
  intro v hv
  obtain ⟨j, _, rfl⟩ := List.mem_map.1 hv
  rfl

/-- are these the letters of a digest? -/
def digOK (s : ByteArray) : Bool := hexOK s && decide (s.size = 64)

def DigPost (s : ByteArray) (w : World) (e : Ending) (w' : World) : Prop :=
  Chg w w' [] ∧ ((digOK s = true ∧ e = .returned (.tuple #[.agg (unhexV s 32).toArray, .nilIface])) ∨ (digOK s = false ∧ ∃ ti x, e = .returned (.tuple #[.agg zer32.toArray, .iface ti x])))

set_option maxRecDepth 100000 in
set_option maxHeartbeats 4000000 in
theorem base_ToDigest (s : ByteArray) (hs : s.size ≤ 2147483648) (w : World) :
    Calls Tryz.prog 32 #[.string s] w (DigPost s w) := by
  obtain ⟨w0, hw0⟩ : ∃ x, x = w.alloc (.cells zer32.toArray 23) := ⟨_, rfl⟩
  have HB0 : Hid (Blk w0 w.heap.size zer32 23) := by rw [hw0]; exact Lib.hid (Blk.new _ _ _)
  have HG0 : Hid (Chg w w0 []) := by rw [hw0]; exact Lib.hid ((Chg.refl w []).alloc _)
  have HW := Lib.hid hw0
  clear hw0
  go_enter Tryz.func32, Tryz.ntmps32
  go_wp2_with fail
  change Calls _ _ _ (w.alloc (.cells zer32.toArray 23)) _
  rw [← HW.out]
  refine (base_Read_hex s hs w0).mono ?_
  rintro e w1 ⟨sl, er, rfl, hg1, h⟩
  have HB1 := Lib.hid (HB0.out.kept hg1 (by simp))
  have HG1 := Lib.hid (HG0.out.trans hg1)
  clear hg1
  rcases h with ⟨hok, rfl, hL, hO⟩ | ⟨hno, rfl, ti, x, rfl⟩
  · obtain ⟨a, cap, rfl, ha⟩ := hL.form
    have hvl := unhexV_length s (s.size / 2)
    by_cases h64 : s.size / 2 = 32
    · have hev : s.size = 64 := by
        unfold hexOK at hok
        simp only [Bool.and_eq_true, decide_eq_true_eq] at hok
        omega
      rw [h64] at hL ha hvl ⊢
      obtain ⟨g, rfl⟩ := ha (by intro h; rw [h] at hvl; simp at hvl)
      have hrg : w1.rangeAt g 0 (unhexV s 32) := fun j v hv => by rw [Nat.zero_add]; exact hL.cell rfl j v hv
      have HRG := Lib.hid hrg
      have hd : digOK s = true := by unfold digOK; rw [hok, hev]; rfl
      have HD := Lib.hid hd
      rw [hvl]
      have harr : ∀ w, (Instr.arrayAt 23 (.slice (some ⟨g, 0, none⟩) 32 cap)).run Tryz.prog w = .ok (.pointer (some ⟨g, 0, none⟩)) w := fun w => run_arrayAt w 23 5 32 _ 32 cap Tryz.underlying23 (Nat.le_refl _)
      clear hok hL hO hvl h64 hev hrg hd ha
      go_wp2_with (first
        | (refine wpList_load_mid rfl _ _ rfl g 0 rfl (unhexV s 32) _ HRG.out Tryz.underlying23 rfl (by rw [info_dg5, unhexV_length]) ?_)
        | (refine wpList_store_blk rfl _ _ _ rfl w.heap.size (unhexV s 32) rfl rfl 23 _ HB1.out (by rw [info_dg5, unhexV_length]) (by rw [unhexV_length]; rfl) (unhexV_one _ _) ?_; intro w6 hz6 hB6 hg6; have HB6 := Lib.hid hB6; have HG6 := Lib.hid hg6; clear hB6 hg6 hz6))
      exact bodyPost_ret (results_blk_tmp rfl _ _ w.heap.size 23 (unhexV s 32) _ rfl HB6.out Tryz.underlying23 rfl (by rw [info_dg5, unhexV_length])) rfl ⟨HG1.out.fresh HG6.out (by simp), .inl ⟨HD.out, rfl⟩⟩
    · have hd : digOK s = false := by unfold digOK; rw [decide_eq_false (by omega)]; simp
      have HD := Lib.hid hd
      have d32 : ((s.size / 2 : Nat) : Int) ≠ 32 := by omega
      rw [hvl]
      obtain ⟨m, hm⟩ : ∃ m, m = s.size / 2 := ⟨_, rfl⟩
      rw [← hm] at d32 ⊢
      have dd : ((m : Int) == 32) = false := by simp; omega
      clear hok hL hO hvl h64 hd ha hm d32
      go_wp2_with (first
        | (refine wpList_store_blk rfl _ _ _ rfl w.heap.size zer32 rfl rfl 23 _ HB1.out (by rw [info_dg5, zer32_length]) rfl zer32_one ?_; intro w6 hz6 hB6 hg6; have HB6 := Lib.hid hB6; have HG6 := Lib.hid hg6; clear hB6 hg6 hz6))
      exact bodyPost_ret (results_blk_tmp rfl _ _ w.heap.size 23 zer32 _ rfl HB6.out Tryz.underlying23 rfl (by rw [info_dg5, zer32_length])) rfl ⟨HG1.out.fresh HG6.out (by simp), .inr ⟨HD.out, _, _, rfl⟩⟩
  · have hd : digOK s = false := by unfold digOK; rw [hno]; rfl
    have HD := Lib.hid hd
    clear hno hd
    go_wp2_with (first
      | (refine wpList_store_blk rfl _ _ _ rfl w.heap.size zer32 rfl rfl 23 _ HB1.out (by rw [info_dg5, zer32_length]) rfl zer32_one ?_; intro w6 hz6 hB6 hg6; have HB6 := Lib.hid hB6; have HG6 := Lib.hid hg6; clear hB6 hg6 hz6))
    exact bodyPost_ret (results_blk_tmp rfl _ _ w.heap.size 23 zer32 _ rfl HB6.out Tryz.underlying23 rfl (by rw [info_dg5, zer32_length])) rfl ⟨HG1.out.fresh HG6.out (by simp), .inr ⟨HD.out, _, _, rfl⟩⟩
end Go.Proofs.YtfdhgakalojahaaGreatDoor

namespace Go.Proofs
open Go.Shelf
def Tryz.sortL_ren : Go.Shelf.Ren := ⟨fun | 6 => 107 | 15 => 128 | 14 => 127 | 28 => 150 | 29 => 151 | 20 => 142 | 21 => 143 | 22 => 144 | 23 => 145 | 24 => 146 | 25 => 147 | 26 => 148 | 27 => 149 | 46 => 161 | 47 => 162 | 48 => 163 | 49 => 164 | 50 => 165 | 57 => 170 | n => n, fun | 22 => 40 | 24 => 9 | 25 => 117 | 3 => 3 | 39 => 173 | 0 => 0 | 53 => 164 | 55 => 38 | 4 => 4 | 46 => 245 | 45 => 244 | 50 => 81 | 5 => 5 | 9 => 9 | 66 => 265 | 70 => 268 | 76 => 271 | 77 => 272 | n => n, fun | n => n⟩
theorem Tryz.sortL : Go.Proofs.SlLaysF.n6 Tryz.prog Tryz.sortL_ren := {
  mixed := by kernel_rfl
  f6 := ⟨Tryz.f107.name, by decide, Tryz.func107.trans (congrArg some (by kernel_rfl))⟩
  f14 := ⟨Tryz.f127.name, by decide, Tryz.func127.trans (congrArg some (by kernel_rfl))⟩
  f15 := Tryz.func128.trans (congrArg some (by kernel_rfl))
  f20 := ⟨Tryz.f142.name, by decide, Tryz.func142.trans (congrArg some (by kernel_rfl))⟩
  f21 := ⟨Tryz.f143.name, by decide, Tryz.func143.trans (congrArg some (by kernel_rfl))⟩
  f22 := ⟨Tryz.f144.name, by decide, Tryz.func144.trans (congrArg some (by kernel_rfl))⟩
  f23 := ⟨Tryz.f145.name, by decide, Tryz.func145.trans (congrArg some (by kernel_rfl))⟩
  f24 := ⟨Tryz.f146.name, by decide, Tryz.func146.trans (congrArg some (by kernel_rfl))⟩
  f25 := ⟨Tryz.f147.name, by decide, Tryz.func147.trans (congrArg some (by kernel_rfl))⟩
  f26 := ⟨Tryz.f148.name, by decide, Tryz.func148.trans (congrArg some (by kernel_rfl))⟩
  f27 := ⟨Tryz.f149.name, by decide, Tryz.func149.trans (congrArg some (by kernel_rfl))⟩
  f28 := Tryz.func150.trans (congrArg some (by kernel_rfl))
  f29 := Tryz.func151.trans (congrArg some (by kernel_rfl))
  f46 := ⟨Tryz.f161.name, by decide, Tryz.func161.trans (congrArg some (by kernel_rfl))⟩
  f47 := Tryz.func162.trans (congrArg some (by kernel_rfl))
  f48 := Tryz.func163.trans (congrArg some (by kernel_rfl))
  f49 := ⟨Tryz.f164.name, by decide, Tryz.func164.trans (congrArg some (by kernel_rfl))⟩
  f50 := ⟨Tryz.f165.name, by decide, Tryz.func165.trans (congrArg some (by kernel_rfl))⟩
  f57 := ⟨Tryz.f170.name, by decide, Tryz.func170.trans (congrArg some (by kernel_rfl))⟩
  t0 := Tryz.underlying0
  a0 := Tryz.isAgg0
  z0 := Tryz.sizeOf0
  v0 := Tryz.zeroValue0
  t3 := Tryz.underlying3
  a3 := Tryz.isAgg3
  z3 := Tryz.sizeOf3
  v3 := Tryz.zeroValue3
  t4 := Tryz.underlying4
  a4 := Tryz.isAgg4
  z4 := Tryz.sizeOf4
  v4 := Tryz.zeroValue4
  t5 := Tryz.underlying5
  a5 := Tryz.isAgg5
  z5 := Tryz.sizeOf5
  v5 := Tryz.zeroValue5
  t9 := Tryz.underlying9
  a9 := Tryz.isAgg9
  z9 := Tryz.sizeOf9
  v9 := Tryz.zeroValue9
  t22 := Tryz.underlying40
  a22 := Tryz.isAgg40
  z22 := Tryz.sizeOf40
  v22 := Tryz.zeroValue40
  a24 := Tryz.isAgg9
  z24 := Tryz.sizeOf9
  t25 := Tryz.underlying117
  a25 := Tryz.isAgg117
  z25 := Tryz.sizeOf117
  v25 := Tryz.zeroValue117
  t39 := Tryz.underlying173
  a39 := Tryz.isAgg173
  z39 := Tryz.sizeOf173
  v39 := Tryz.zeroValue173
  t45 := Tryz.underlying244
  a45 := Tryz.isAgg244
  z45 := Tryz.sizeOf244
  v45 := Tryz.zeroValue244
  t46 := Tryz.underlying245
  a46 := Tryz.isAgg245
  z46 := Tryz.sizeOf245
  v46 := Tryz.zeroValue245
  t50 := Tryz.underlying81
  a50 := Tryz.isAgg81
  z50 := Tryz.sizeOf81
  v50 := Tryz.zeroValue81
  t53 := Tryz.underlying164
  a53 := Tryz.isAgg164
  z53 := Tryz.sizeOf164
  v53 := Tryz.zeroValue164
  t55 := Tryz.underlying38
  a55 := Tryz.isAgg38
  z55 := Tryz.sizeOf38
  v55 := Tryz.zeroValue38
  t66 := Tryz.underlying265
  a66 := Tryz.isAgg265
  z66 := Tryz.sizeOf265
  v66 := Tryz.zeroValue265
  t70 := Tryz.underlying268
  a70 := Tryz.isAgg268
  z70 := Tryz.sizeOf268
  v70 := Tryz.zeroValue268
  t76 := Tryz.underlying271
  a76 := Tryz.isAgg271
  z76 := Tryz.sizeOf271
  v76 := Tryz.zeroValue271
  t77 := Tryz.underlying272
  a77 := Tryz.isAgg272
  z77 := Tryz.sizeOf272
  v77 := Tryz.zeroValue272 }
def Tryz.sortL0_ren : Go.Shelf.Ren := ⟨fun | 6 => 107 | 15 => 128 | 14 => 127 | 28 => 150 | 29 => 151 | 20 => 142 | 21 => 143 | 22 => 144 | 23 => 145 | 24 => 146 | 25 => 147 | 26 => 148 | 27 => 149 | 46 => 161 | 47 => 162 | 48 => 163 | 49 => 164 | 50 => 165 | 57 => 170 | n => n, fun | 22 => 40 | 24 => 9 | 25 => 117 | 3 => 3 | 39 => 173 | 0 => 0 | 53 => 164 | 55 => 38 | 4 => 4 | 46 => 245 | 45 => 244 | 50 => 81 | 5 => 5 | 9 => 9 | 66 => 265 | 70 => 268 | 76 => 271 | 77 => 272 | n => n, fun | n => n⟩
theorem Tryz.sortL0 : Go.Proofs.SlLaysF0.n6 Tryz.prog Tryz.sortL0_ren := {
  mixed := by kernel_rfl
  f6 := ⟨Tryz.f107.name, by decide, Tryz.func107.trans (congrArg some (by kernel_rfl))⟩
  f14 := ⟨Tryz.f127.name, by decide, Tryz.func127.trans (congrArg some (by kernel_rfl))⟩
  f15 := Tryz.func128.trans (congrArg some (by kernel_rfl))
  f20 := ⟨Tryz.f142.name, by decide, Tryz.func142.trans (congrArg some (by kernel_rfl))⟩
  f21 := ⟨Tryz.f143.name, by decide, Tryz.func143.trans (congrArg some (by kernel_rfl))⟩
  f22 := ⟨Tryz.f144.name, by decide, Tryz.func144.trans (congrArg some (by kernel_rfl))⟩
  f23 := ⟨Tryz.f145.name, by decide, Tryz.func145.trans (congrArg some (by kernel_rfl))⟩
  f24 := ⟨Tryz.f146.name, by decide, Tryz.func146.trans (congrArg some (by kernel_rfl))⟩
  f25 := ⟨Tryz.f147.name, by decide, Tryz.func147.trans (congrArg some (by kernel_rfl))⟩
  f26 := ⟨Tryz.f148.name, by decide, Tryz.func148.trans (congrArg some (by kernel_rfl))⟩
  f27 := ⟨Tryz.f149.name, by decide, Tryz.func149.trans (congrArg some (by kernel_rfl))⟩
  f28 := Tryz.func150.trans (congrArg some (by kernel_rfl))
  f29 := Tryz.func151.trans (congrArg some (by kernel_rfl))
  f46 := ⟨Tryz.f161.name, by decide, Tryz.func161.trans (congrArg some (by kernel_rfl))⟩
  f47 := Tryz.func162.trans (congrArg some (by kernel_rfl))
  f48 := Tryz.func163.trans (congrArg some (by kernel_rfl))
  f49 := ⟨Tryz.f164.name, by decide, Tryz.func164.trans (congrArg some (by kernel_rfl))⟩
  f50 := ⟨Tryz.f165.name, by decide, Tryz.func165.trans (congrArg some (by kernel_rfl))⟩
  f57 := ⟨Tryz.f170.name, by decide, Tryz.func170.trans (congrArg some (by kernel_rfl))⟩
  t0 := Tryz.underlying0
  a0 := Tryz.isAgg0
  z0 := Tryz.sizeOf0
  v0 := Tryz.zeroValue0
  t3 := Tryz.underlying3
  a3 := Tryz.isAgg3
  z3 := Tryz.sizeOf3
  v3 := Tryz.zeroValue3
  t4 := Tryz.underlying4
  a4 := Tryz.isAgg4
  z4 := Tryz.sizeOf4
  v4 := Tryz.zeroValue4
  t5 := Tryz.underlying5
  a5 := Tryz.isAgg5
  z5 := Tryz.sizeOf5
  v5 := Tryz.zeroValue5
  t9 := Tryz.underlying9
  a9 := Tryz.isAgg9
  z9 := Tryz.sizeOf9
  v9 := Tryz.zeroValue9
  t22 := Tryz.underlying40
  a22 := Tryz.isAgg40
  z22 := Tryz.sizeOf40
  v22 := Tryz.zeroValue40
  t25 := Tryz.underlying117
  a25 := Tryz.isAgg117
  z25 := Tryz.sizeOf117
  v25 := Tryz.zeroValue117
  t39 := Tryz.underlying173
  a39 := Tryz.isAgg173
  z39 := Tryz.sizeOf173
  v39 := Tryz.zeroValue173
  t45 := Tryz.underlying244
  a45 := Tryz.isAgg244
  z45 := Tryz.sizeOf244
  v45 := Tryz.zeroValue244
  t46 := Tryz.underlying245
  a46 := Tryz.isAgg245
  z46 := Tryz.sizeOf245
  v46 := Tryz.zeroValue245
  t50 := Tryz.underlying81
  a50 := Tryz.isAgg81
  z50 := Tryz.sizeOf81
  v50 := Tryz.zeroValue81
  t53 := Tryz.underlying164
  a53 := Tryz.isAgg164
  z53 := Tryz.sizeOf164
  v53 := Tryz.zeroValue164
  t55 := Tryz.underlying38
  a55 := Tryz.isAgg38
  z55 := Tryz.sizeOf38
  v55 := Tryz.zeroValue38
  t66 := Tryz.underlying265
  a66 := Tryz.isAgg265
  z66 := Tryz.sizeOf265
  v66 := Tryz.zeroValue265
  t70 := Tryz.underlying268
  a70 := Tryz.isAgg268
  z70 := Tryz.sizeOf268
  v70 := Tryz.zeroValue268
  t76 := Tryz.underlying271
  a76 := Tryz.isAgg271
  z76 := Tryz.sizeOf271
  v76 := Tryz.zeroValue271
  t77 := Tryz.underlying272
  a77 := Tryz.isAgg272
  z77 := Tryz.sizeOf272
  v77 := Tryz.zeroValue272 }
def Tryz.mul64_ren : Go.Shelf.Ren := ⟨fun | 264 => 171 | n => n, fun | 53 => 38 | 46 => 173 | n => n, fun | n => n⟩
theorem Tryz.mul64 : Go.Proofs.Lays.n264 Tryz.prog Tryz.mul64_ren := {
  mixed := by kernel_rfl
  f264 := Tryz.func171.trans (congrArg some (by kernel_rfl))
  t46 := Tryz.underlying173
  a46 := Tryz.isAgg173
  z46 := Tryz.sizeOf173
  v46 := Tryz.zeroValue173
  t53 := Tryz.underlying38
  a53 := Tryz.isAgg38
  z53 := Tryz.sizeOf38
  v53 := Tryz.zeroValue38 }
end Go.Proofs

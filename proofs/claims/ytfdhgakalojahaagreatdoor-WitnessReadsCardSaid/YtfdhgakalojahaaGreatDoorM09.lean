/- WALKS: the program's layer 6 at the alphabet of sixteen letters: bytes written as letters. WALKS: the reference's layer 3: a right text's characters, its units. MEMORY: slices that are read and cut, with their capacity; no program in sight. -/
import Derived.StillTailTactics
import Derived.Deep.LoopGhost
import Derived.Outline
import Derived.BigQuiet
import Derived.Deep.RegionHeld3
import Derived.Deep.RegionLaw
import Derived.Deep.QuietTactic
import Derived.Test.YtfdhgakalojahaaGreatDoorM07
import Derived.Test.YtfdhgakalojahaaGreatDoorM08
import Derived.Test.YtfdhgakalojahaaGreatDoorM03
import Derived.Test.YtfdhgakalojahaaGreatDoorM06
import Derived.Test.YtfdhgakalojahaaGreatDoorM02
set_option linter.unusedSimpArgs false
set_option linter.unusedVariables false
set_option linter.unnecessarySimpa false
set_option linter.unusedSectionVars false
namespace Go.Proofs.YtfdhgakalojahaaGreatDoor
open Go Go.RowKit

theorem cell_new {w : World} {B : Nat} (hB : w.heap.size = B) (v : Value) (T : TypeId) : (w.alloc (.cells #[v] T)).cell? ⟨B, 0, none⟩ = some v := by
  subst hB; rw [World.cell?_alloc_mark]; rfl

theorem Lst.norm {w : World} {a : Option Addr} {n n' cap : Nat} {e : TypeId} {xs xs' : List Value} (h : Lst w (.slice a n cap) e xs) (hn : n = n') (hx : xs = xs') : Lst w (.slice a n' cap) e xs' := by
  subst hn; subst hx; exact h

theorem own_step {w W : World} {v sv : Value} {g n cap : Nat} (hO : ∀ g, v.ownBlock = some g → sv.ownBlock = some g ∨ w.heap.size ≤ g) (hG : v.ownBlock = some g ∨ g = W.heap.size) (hs : w.heap.size ≤ W.heap.size) :
    ∀ g', (Value.slice (some ⟨g, 0, none⟩) n cap).ownBlock = some g' → sv.ownBlock = some g' ∨ w.heap.size ≤ g' := by
  intro g' hg
  simp [Value.ownBlock] at hg
  subst hg
  rcases hG with h | h
  · exact hO _ h
  · exact .inr (by omega)

theorem Chg.own {w W W' : World} {v sv : Value} {bs : List Nat} (h : Chg w W bs) (k : Chg W W' v.ownBlock.toList) (hb : ∀ g, sv.ownBlock = some g → g ∈ bs) (hO : ∀ g, v.ownBlock = some g → sv.ownBlock = some g ∨ w.heap.size ≤ g) : Chg w W' bs :=
  h.step k fun i hi hlt => by
    rcases hO i (by simpa using hi) with h | h
    · exact hb i h
    · omega

def hexA : ByteArray := ⟨#[48, 49, 50, 51, 52, 53, 54, 55, 56, 57, 97, 98, 99, 100, 101, 102]⟩

theorem base_letters_hex (w : World) : Calls Tryz.prog 110 #[.int .u8 1] w fun e w' => e = .returned (.string hexA) ∧ w = w' := by
  go_enter Tryz.func110, Tryz.ntmps110
  go_wp2
  go_ret
  exact ⟨rfl, rfl⟩

theorem base_letters_hex' (w : World) : Calls Tryz.prog 110 #[.int .u8 1] w fun e w' => e = .returned (.string hexA) ∧ w' = w :=
  (base_letters_hex w).mono fun _ _ h => ⟨h.1, h.2.symm⟩

theorem base_bits_hex (w : World) : Calls Tryz.prog 86 #[.int .u8 1] w fun e w' => e = .returned (.int .i64 4) ∧ w = w' := by
  have hx : hexA.toList.isEmpty = false := by rw [ByteArray.toList_eq]; rfl
  go_enter Tryz.func86, Tryz.ntmps86
  go_wp2_with (first | (go_at_call 110; refine (base_letters_hex _).mono ?_; rintro e w' ⟨rfl, rfl⟩))
  go_ret
  exact ⟨rfl, rfl⟩

theorem hexA_size : hexA.size = 16 := rfl

theorem and15 (n : Nat) (hn : n < 4294967296) : bits BinOp.and IntKind.u32 (n : Int) (IntKind.u32.wrap (IntKind.u32.wrap 16 - 1)) = ((n % 16 : Nat) : Int) := by
  rw [show IntKind.u32.wrap (IntKind.u32.wrap 16 - 1) = ((15 : Nat) : Int) from by decide, u32_and_nat n 15 (by omega) (by omega)]
  congr 1
  exact Nat.and_two_pow_sub_one_eq_mod n 4

theorem and15' (n : Nat) (hn : n < 256) : bits BinOp.and IntKind.u32 ((n : Int) / 16) (IntKind.u32.wrap (IntKind.u32.wrap 16 - 1)) = ((n / 16 : Nat) : Int) := by
  rw [show (n : Int) / 16 = ((n / 16 : Nat) : Int) from by omega, and15 (n / 16) (by omega), Nat.mod_eq_of_lt (by omega)]

theorem and0 (n : Nat) (hn : n < 4294967296) : bits BinOp.and IntKind.u32 (n : Int) (IntKind.u32.wrap (IntKind.u32.wrap 1 - 1)) = 0 := by
  rw [show IntKind.u32.wrap (IntKind.u32.wrap 1 - 1) = ((0 : Nat) : Int) from by decide, u32_and_nat n 0 (by omega) (by omega)]
  simp

/-- the letter of a number -/
def hexD (n : Nat) : Nat := if n < 10 then 48 + n else 87 + n

theorem hexA_get (n : Nat) (h : n < hexA.size) : hexA[n].toNat = hexD n := by
  have h' : n < 16 := h
  have : n = 0 ∨ n = 1 ∨ n = 2 ∨ n = 3 ∨ n = 4 ∨ n = 5 ∨ n = 6 ∨ n = 7 ∨ n = 8 ∨ n = 9 ∨ n = 10 ∨ n = 11 ∨ n = 12 ∨ n = 13 ∨ n = 14 ∨ n = 15 := by omega
  rcases this with rfl | rfl | rfl | rfl | rfl | rfl | rfl | rfl | rfl | rfl | rfl | rfl | rfl | rfl | rfl | rfl <;> rfl

def hexV (s : ByteArray) (k : Nat) : List Value := (List.range k).flatMap fun i => [.int .u8 (hexD (Utf.byteAt s i / 16)), .int .u8 (hexD (Utf.byteAt s i % 16))]

theorem hexV_succ (s : ByteArray) (k : Nat) : hexV s (k + 1) = hexV s k ++ [.int .u8 (hexD (Utf.byteAt s k / 16)), .int .u8 (hexD (Utf.byteAt s k % 16))] := by
  unfold hexV; rw [List.range_succ, List.flatMap_append]; simp

theorem hexV_length (s : ByteArray) (k : Nat) : (hexV s k).length = 2 * k := by
  induction k with
  | zero => rfl
  | succ k ih => rw [hexV_succ, List.length_append, ih]; simp; omega

theorem or0 (c : Nat) (hc : c < 256) : bits BinOp.or IntKind.u32 (IntKind.u32.wrap 0) (IntKind.u32.wrap (c : Int)) = c := by
  rw [show IntKind.u32.wrap 0 = ((0 : Nat) : Int) from rfl, IntWalk.u32_in (c : Int) ⟨by omega, by omega⟩, u32_or_nat 0 c (by omega) (by omega)]
  simp

def hexC (s : ByteArray) (k : Nat) : List Value := [.int .u8 (hexD (Utf.byteAt s k / 16)), .int .u8 (hexD (Utf.byteAt s k % 16))]

def WR (rest many : Int) : List Value := [.int .u8 1, .int .u32 rest, .int .i64 many]

def PutPost (b : Nat) (sv : Value) (vs : List Value) (s : ByteArray) (w : World) (e : Ending) (w' : World) : Prop :=
  ∃ sv', e = .returned sv' ∧ Lst w' sv' 5 (vs ++ hexV s s.size) ∧ Blk w' b (WR 0 0) 166 ∧ Chg w w' (b :: sv.ownBlock.toList) ∧ ∀ g, sv'.ownBlock = some g → sv.ownBlock = some g ∨ w.heap.size ≤ g

set_option maxRecDepth 100000 in
set_option maxHeartbeats 2000000 in
theorem base_put_hex (b : Nat) (sv : Value) (vs : List Value) (s : ByteArray) (w : World) (hB : Blk w b (WR 0 0) 166) (hL : Lst w sv 5 vs) (hne : ∀ g, sv.ownBlock = some g → g ≠ b)
    (hs : s.size ≤ 2147483648) (hv : vs.length ≤ 2147483648) :
    Calls Tryz.prog 85 #[.pointer (some ⟨b, 0, none⟩), sv, .string s] w (PutPost b sv vs s w) := by
  have HB := Lib.hid hB
  have HL := Lib.hid hL
  have HNE := Lib.hid hne
  have c0 : w.cell? ⟨b, 0, none⟩ = some (.int .u8 1) := hB.cell 0
  have lb := hB.lt
  clear hB hL hne
  go_enter Tryz.func85, Tryz.ntmps85
  go_wp2_with (first | (go_at_call 86; refine (base_bits_hex _).mono ?_; rintro e w' ⟨rfl, rfl⟩))
  go_loopw [1, 8] (fun v i wr => ∃ k : Nat, k ≤ s.size ∧ i = .int .i64 k ∧ Lst wr v 5 (vs ++ hexV s k) ∧ Blk wr b (WR 0 0) 166 ∧ Chg w wr (b :: sv.ownBlock.toList) ∧ ∀ g, v.ownBlock = some g → sv.ownBlock = some g ∨ w.heap.size ≤ g)
    (fun _ i _ => s.size - (intOf i).toNat)
  case atStart => exact ⟨0, by omega, rfl, by simpa [hexV] using HL.out, HB.out, Chg.refl _ _, fun g h => .inl h⟩
  case round =>
    obtain ⟨wa, rfl⟩ : ∃ x, x = wr := ⟨_, rfl⟩
    obtain ⟨k, hk, rfl, hL, hB, hg, ho⟩ := hrel
    have d0 : wa.cell? ⟨b, 0, none⟩ = some (.int .u8 1) := hB.cell 0
    have d1 : wa.cell? ⟨b, 1, none⟩ = some (.int .u32 0) := hB.cell 1
    have d2 : wa.cell? ⟨b, 2, none⟩ = some (.int .i64 0) := hB.cell 2
    have df : ∀ j, wa.frozen? ⟨b, j, none⟩ = false := fun j => hB.frozen j
    have lbr := hB.lt
    by_cases hlt : k < s.size
    · have HX := Lib.hid (Utf.byteAt_eq hlt)
      have HL2 := Lib.hid hL
      have HB2 := Lib.hid hB
      have HG := Lib.hid hg
      have HO := Lib.hid ho
      clear hL hB hg ho
      have HNB : Hid (∀ (v : Value), (∀ g, v.ownBlock = some g → sv.ownBlock = some g ∨ w.heap.size ≤ g) → ∀ g, v.ownBlock = some g → g ∉ [b]) := by
        intro v hv g hg hm
        simp at hm; subst hm
        rcases hv _ hg with h | h
        · exact HNE.out _ h rfl
        · omega
      have hor : bits BinOp.or IntKind.u32 (IntKind.u32.wrap 0) (IntKind.u32.wrap ↑s[k].toNat) = ↑s[k].toNat := or0 s[k].toNat s[k].toNat_lt
      go_wp2
      go_still_tail 13, (by kernel_rfl)
      go_wp2
      clear hor
      go_loopg [1] 2 (fun m v wq => ∃ j : Nat, j ≤ 2 ∧ m = 2 - j ∧ Lst wq v 5 (vs ++ hexV s k ++ (hexC s k).take j) ∧ Blk wq b (WR s[k].toNat (8 - 4 * j)) 166 ∧ Chg w wq (b :: sv.ownBlock.toList) ∧ ∀ g, v.ownBlock = some g → sv.ownBlock = some g ∨ w.heap.size ≤ g)
      case atStart =>
        refine ⟨0, by omega, rfl, ?_, ?_, ?_, HO.out⟩
        · simp only [List.take_zero, List.append_nil]
          refine HL2.out.kept (bs := [b]) ?_ (HNB.out _ HO.out)
          (repeat (first | exact Chg.refl _ _ | with_reducible refine Chg.drewN ?_ _ | with_reducible refine Chg.drew ?_ | with_reducible refine Chg.alloc ?_ _ | with_reducible refine Chg.setCell ?_ _ _ (by simp) | with_reducible refine Chg.setCell ?_ _ _ (by simp; omega)))
        · (apply Blk.eq; (· (repeat (first | exact HB2.out | with_reducible apply Blk.drewN | with_reducible apply Blk.drew | with_reducible apply Blk.alloc | with_reducible apply Blk.set | (with_reducible apply Blk.set_other; rotate_left; (· first | (simp; done) | (simp; omega)))))); rfl)
        · (repeat (first | exact HG.out | with_reducible refine Chg.drewN ?_ _ | with_reducible refine Chg.drew ?_ | with_reducible refine Chg.alloc ?_ _ | with_reducible refine Chg.setCell ?_ _ _ (by simp) | with_reducible refine Chg.setCell ?_ _ _ (by simp; omega)))
      case round =>
        obtain ⟨j, hj, rfl, hL, hB, hg, ho⟩ := hrel
        have e0 : wr.cell? ⟨b, 0, none⟩ = some (.int .u8 1) := hB.cell 0
        have e1 : wr.cell? ⟨b, 1, none⟩ = some (.int .u32 s[k].toNat) := hB.cell 1
        have e2 : wr.cell? ⟨b, 2, none⟩ = some (.int .i64 (8 - 4 * j)) := hB.cell 2
        have ef : ∀ j, wr.frozen? ⟨b, j, none⟩ = false := fun j => hB.frozen j
        have lbq := hB.lt
        have HL3 := Lib.hid hL
        have HB3 := Lib.hid hB
        have HG3 := Lib.hid hg
        have HO3 := Lib.hid ho
        have HLN : Hid ((vs ++ hexV s k ++ (hexC s k).take j).length = vs.length + 2 * k + j) := by
          unfold Hid; rw [List.length_append, List.length_append, hexV_length, List.length_take]; simp [hexC]; omega
        have HNB2 : Hid (∀ (v : Value), (∀ g, v.ownBlock = some g → sv.ownBlock = some g ∨ w.heap.size ≤ g) → b ∉ v.ownBlock.toList) := by
          intro v hv hm
          simp at hm
          rcases hv b hm with h | h
          · exact HNE.out _ h rfl
          · omega
        clear hL hB hg ho
        obtain rfl | rfl | rfl : j = 0 ∨ j = 1 ∨ j = 2 := by omega
        · have e2' : wr.cell? ⟨b, 2, none⟩ = some (.int .i64 8) := e2
          have hc := s[k].toNat_lt
          have HA := Lib.hid (and15' s[k].toNat (Nat.lt_of_lt_of_le hc (by decide)))
          obtain ⟨n, hn⟩ : ∃ n, n = (if 0 = 0 then s[k].toNat / 16 else s[k].toNat % 16) := ⟨_, rfl⟩
          have HN := Lib.hid hn
          have hn16 : (n : Int) < (hexA.size : Int) := by rw [hexA_size, hn]; simp; omega
          have hn16' : n < hexA.size := by rw [hexA_size, hn]; simp; omega
          simp at hn
          rw [← hn] at HA
          clear hn e2
          go_wp2
          have HB5 : Hid (Blk (wr.setCell ⟨b, 2, none⟩ (.int .i64 4)) b (WR s[k].toNat 4) 166) := HB3.out.set 2 _
          have ha := HA.out
          go_region_held3 (fun w' => w'.cell? ⟨b, 0, none⟩ = some (.int .u8 1) ∧ w'.cell? ⟨b, 1, none⟩ = some (.int .u32 s[k].toNat) ∧ w'.cell? ⟨b, 2, none⟩ = some (.int .i64 4))
            (first | exact ⟨HB5.out.drew.cell 0, HB5.out.drew.cell 1, HB5.out.drew.cell 2⟩ | exact ⟨(HB5.out.drew.alloc _).cell 0, (HB5.out.drew.alloc _).cell 1, (HB5.out.drew.alloc _).cell 2⟩ | exact ⟨HB4.out.cell 0, HB4.out.cell 1, HB4.out.cell 2⟩)
            (first | (refine step_append1 rfl _ _ _ rfl 5 (.int .u8 0) 1 Tryz.underlying90 info_byte rfl u1 _ (by rfl) (by exact (HL3.out.kept (bs := [b]) (by (repeat (first | exact Chg.refl _ _ | with_reducible refine Chg.drewN ?_ _ | with_reducible refine Chg.drew ?_ | with_reducible refine Chg.alloc ?_ _ | with_reducible refine Chg.setCell ?_ _ _ (by simp) | with_reducible refine Chg.setCell ?_ _ _ (by simp; omega)))) (HNB.out _ HO3.out))) wr.heap.size (.int .u8 hexA[n].toNat) (by rfl) (by exact cell_new (by simp) _ _) (by rfl) (by rw [HLN.out]; omega) (by rw [HLN.out]; omega) ?_; intro g cap w3 hL4 hC4 hG4; have HL4 := Lib.hid hL4; have HC4 := Lib.hid hC4; have HG4 := Lib.hid hG4; have HB4 := Lib.hid ((HB5.out.drew.alloc _).kept hC4 (HNB2.out _ HO3.out)); clear hL4 hC4 hG4) | (go_at_call 110; refine (base_letters_hex _).mono ?_; rintro e w2 ⟨rfl, rfl⟩))
          clear ha
          go_wp2
          go_roundg (2 - 1)
          case measure => omega
          case rel =>
            have G1 := HG3.out
            have hsz := HG3.out.size
            refine ⟨1, by omega, by omega, ?_, HB4.out, Chg.own (sv := sv) (by (repeat (first | exact G1 | with_reducible refine Chg.drewN ?_ _ | with_reducible refine Chg.drew ?_ | with_reducible refine Chg.alloc ?_ _ | with_reducible refine Chg.setCell ?_ _ _ (by simp) | with_reducible refine Chg.setCell ?_ _ _ (by simp; omega)))) HC4.out (fun g hg => by simp [hg]) HO3.out, own_step HO3.out HG4.out (by simp; omega)⟩
            refine HL4.out.norm (by simp [hexC]) ?_
            have e1 : hexA[n].toNat = hexD n := by rw [hexA_get]
            rw [e1, HN.out, ← HX.out]; simp [hexC]
        · have e2' : wr.cell? ⟨b, 2, none⟩ = some (.int .i64 4) := e2
          have hc := s[k].toNat_lt
          have HA := Lib.hid (and15 s[k].toNat (Nat.lt_of_lt_of_le hc (by decide)))
          obtain ⟨n, hn⟩ : ∃ n, n = (if 1 = 0 then s[k].toNat / 16 else s[k].toNat % 16) := ⟨_, rfl⟩
          have HN := Lib.hid hn
          have hn16 : (n : Int) < (hexA.size : Int) := by rw [hexA_size, hn]; simp; omega
          have hn16' : n < hexA.size := by rw [hexA_size, hn]; simp; omega
          simp at hn
          rw [← hn] at HA
          clear hn e2
          go_wp2
          have HB5 : Hid (Blk (wr.setCell ⟨b, 2, none⟩ (.int .i64 0)) b (WR s[k].toNat 0) 166) := HB3.out.set 2 _
          have ha := HA.out
          go_region_held3 (fun w' => w'.cell? ⟨b, 0, none⟩ = some (.int .u8 1) ∧ w'.cell? ⟨b, 1, none⟩ = some (.int .u32 s[k].toNat) ∧ w'.cell? ⟨b, 2, none⟩ = some (.int .i64 0))
            (first | exact ⟨HB5.out.drew.cell 0, HB5.out.drew.cell 1, HB5.out.drew.cell 2⟩ | exact ⟨(HB5.out.drew.alloc _).cell 0, (HB5.out.drew.alloc _).cell 1, (HB5.out.drew.alloc _).cell 2⟩ | exact ⟨HB4.out.cell 0, HB4.out.cell 1, HB4.out.cell 2⟩)
            (first | (refine step_append1 rfl _ _ _ rfl 5 (.int .u8 0) 1 Tryz.underlying90 info_byte rfl u1 _ (by rfl) (by exact (HL3.out.kept (bs := [b]) (by (repeat (first | exact Chg.refl _ _ | with_reducible refine Chg.drewN ?_ _ | with_reducible refine Chg.drew ?_ | with_reducible refine Chg.alloc ?_ _ | with_reducible refine Chg.setCell ?_ _ _ (by simp) | with_reducible refine Chg.setCell ?_ _ _ (by simp; omega)))) (HNB.out _ HO3.out))) wr.heap.size (.int .u8 hexA[n].toNat) (by rfl) (by exact cell_new (by simp) _ _) (by rfl) (by rw [HLN.out]; omega) (by rw [HLN.out]; omega) ?_; intro g cap w3 hL4 hC4 hG4; have HL4 := Lib.hid hL4; have HC4 := Lib.hid hC4; have HG4 := Lib.hid hG4; have HB4 := Lib.hid ((HB5.out.drew.alloc _).kept hC4 (HNB2.out _ HO3.out)); clear hL4 hC4 hG4) | (go_at_call 110; refine (base_letters_hex _).mono ?_; rintro e w2 ⟨rfl, rfl⟩))
          clear ha
          go_wp2
          go_roundg (2 - 2)
          case measure => omega
          case rel =>
            have G1 := HG3.out
            have hsz := HG3.out.size
            refine ⟨2, by omega, by omega, ?_, HB4.out, Chg.own (sv := sv) (by (repeat (first | exact G1 | with_reducible refine Chg.drewN ?_ _ | with_reducible refine Chg.drew ?_ | with_reducible refine Chg.alloc ?_ _ | with_reducible refine Chg.setCell ?_ _ _ (by simp) | with_reducible refine Chg.setCell ?_ _ _ (by simp; omega)))) HC4.out (fun g hg => by simp [hg]) HO3.out, own_step HO3.out HG4.out (by simp; omega)⟩
            refine HL4.out.norm (by simp [hexC]) ?_
            have e1 : hexA[n].toNat = hexD n := by rw [hexA_get]
            rw [e1, HN.out, ← HX.out]; simp [hexC]
        · have e2' : wr.cell? ⟨b, 2, none⟩ = some (.int .i64 0) := e2
          have hz : bits BinOp.and IntKind.u32 ↑s[k].toNat (IntKind.u32.wrap (IntKind.u32.wrap 1 - 1)) = 0 := and0 s[k].toNat (Nat.lt_of_lt_of_le s[k].toNat_lt (by decide))
          clear e2
          go_wp2
          go_still_tail 13, (by kernel_rfl)
          go_wp2
          go_roundw
          case rel =>
            have G1 := HG3.out
            refine ⟨k + 1, by omega, by go_num, ?_, ?_, by (repeat (first | exact G1 | with_reducible refine Chg.drewN ?_ _ | with_reducible refine Chg.drew ?_ | with_reducible refine Chg.alloc ?_ _ | with_reducible refine Chg.setCell ?_ _ _ (by simp) | with_reducible refine Chg.setCell ?_ _ _ (by simp; omega))), HO3.out⟩
            · rw [hexV_succ]
              have := HL3.out
              simp only [hexC, List.take_succ_cons, List.take_zero, List.append_assoc] at this ⊢
              refine this.kept (bs := [b]) ?_ (HNB.out _ HO3.out)
              (repeat (first | exact Chg.refl _ _ | with_reducible refine Chg.drewN ?_ _ | with_reducible refine Chg.drew ?_ | with_reducible refine Chg.alloc ?_ _ | with_reducible refine Chg.setCell ?_ _ _ (by simp) | with_reducible refine Chg.setCell ?_ _ _ (by simp; omega)))
            · (apply Blk.eq; (· (repeat (first | exact HB3.out | with_reducible apply Blk.drewN | with_reducible apply Blk.drew | with_reducible apply Blk.alloc | with_reducible apply Blk.set | (with_reducible apply Blk.set_other; rotate_left; (· first | (simp; done) | (simp; omega)))))); rfl)
          case measure => simp [intOf]; omega
    · have hks : k = s.size := by omega
      subst hks
      have HL2 := Lib.hid hL
      have HB2 := Lib.hid hB
      have HG := Lib.hid hg
      have HO := Lib.hid ho
      clear hL hB hg ho
      go_wp2
      go_ret
      exact ⟨_, rfl, HL2.out, HB2.out, HG.out, HO.out⟩
end Go.Proofs.YtfdhgakalojahaaGreatDoor

namespace Go.Proofs.YtfdhgakalojahaaGreatDoor
open Go Go.RowKit

theorem info_i32 : (Tryz.prog.info? 21).map (fun i => (i.zero, i.size, i.bytes)) = some (some (.int .i32 0), 1, 4) := by kernel_rfl
theorem info_i64 : (Tryz.prog.info? 3).map (fun i => (i.zero, i.size, i.bytes)) = some (some (.int .i64 0), 1, 8) := by kernel_rfl
theorem info_u16 : (Tryz.prog.info? 242).map (fun i => (i.zero, i.size, i.bytes)) = some (some (.int .u16 0), 1, 2) := by kernel_rfl

def i32s (l : List Int) : List Value := l.map (Value.int .i32)

theorem runesF_len {s : ByteArray} : ∀ (f p : Nat) (l : List Int), Utf.runesF s f p = some l → l.length ≤ s.size - p
  | 0, p, l, h => by
    simp only [Utf.runesF] at h
    split at h
    · injection h with h; subst h; simp
    · cases h
  | f + 1, p, l, h => by
    simp only [Utf.runesF] at h
    split at h
    · injection h with h; subst h; simp
    · rename_i hp
      split at h
      · rename_i hok
        obtain ⟨l', h1, rfl⟩ := Option.map_eq_some_iff.1 h
        have := runesF_len f _ l' h1
        have hw := ((Utf.okB_iff (by omega)).1 hok).1
        simp only [List.length_cons]
        omega
      · cases h

set_option maxRecDepth 100000 in
set_option maxHeartbeats 2000000 in
theorem r3_Runes (s : ByteArray) (L : List Int) (w : World) (hs : s.size ≤ 2147483648) (hL : Utf.runes s = some L) :
    Calls Tryz.prog 160 #[.string s] w fun e w' => (∃ v u, e = .returned (.tuple #[v, u]) ∧ Lst w' v 21 (i32s L) ∧ ∀ g, v.ownBlock = some g → w.heap.size ≤ g) ∧ Chg w w' [] := by
  have HL := Lib.hid hL
  clear hL
  go_enter Tryz.func160, Tryz.ntmps160
  go_wp2
  go_loopw [4, 5, 6] (fun v4 v5 v6 wr => ∃ (p k : Nat) (pre rest : List Int) (ys : List Value), p ≤ s.size ∧ s.size ≤ p + k ∧ v6 = .int .i64 p ∧ Utf.runesF s k p = some rest ∧ L = pre ++ rest ∧ pre.length ≤ p ∧ ys.length ≤ p ∧ Lst wr v4 21 (i32s pre) ∧ Lst wr v5 3 ys ∧ Chg w wr [] ∧
      (∀ g, v4.ownBlock = some g → w.heap.size ≤ g) ∧ (∀ g, v5.ownBlock = some g → w.heap.size ≤ g) ∧ (∀ g, v4.ownBlock = some g → v5.ownBlock = some g → False)) (fun _ _ v6 _ => s.size - (intOf v6).toNat)
  case atStart => exact ⟨0, s.size, [], L, [], by omega, by omega, rfl, HL.out, rfl, by simp, by simp, Lst.nil _ _, Lst.nil _ _, Chg.refl _ _, fun g hg => (by cases hg), fun g hg => (by cases hg), fun g hg => (by cases hg)⟩
  case round =>
    obtain ⟨wa, rfl⟩ : ∃ x, x = wr := ⟨_, rfl⟩
    obtain ⟨p, k, pre, rest, ys, hp, hk, rfl, hr, hLe, hpl, hyl, hL4, hL5, hg, ho4, ho5, hd⟩ := hrel
    have HR := Lib.hid hr
    have HLE := Lib.hid hLe
    have HL4 := Lib.hid hL4
    have HL5 := Lib.hid hL5
    have HG := Lib.hid hg
    have HO4 := Lib.hid ho4
    have HO5 := Lib.hid ho5
    have HD := Lib.hid hd
    clear hr hLe hL4 hL5 hg ho4 ho5 hd
    by_cases hlt : p < s.size
    · obtain ⟨k', rfl⟩ : ∃ k', k = k' + 1 := ⟨k - 1, by omega⟩
      have hok : Utf.okB s p = true := by
        have := HR.out
        simp only [Utf.runesF] at this
        rw [if_neg (by omega)] at this
        cases h : Utf.okB s p with
        | true => rfl
        | false => rw [h] at this; simp at this
      obtain ⟨rest', hr', hre⟩ : ∃ rest', Utf.runesF s k' (p + Utf.wideAt s p) = some rest' ∧ rest = Utf.runeAt s p :: rest' := by
        have := HR.out
        simp only [Utf.runesF] at this
        rw [if_neg (by omega), hok, if_pos rfl] at this
        obtain ⟨l', h1, h2⟩ := Option.map_eq_some_iff.1 this
        exact ⟨l', h1, h2.symm⟩
      have hwide : 1 ≤ Utf.wideAt s p ∧ Utf.wideAt s p ≤ 4 := by
        have h1 := ((Utf.okB_iff hlt).1 hok).1
        have h2 := Utf.wideN_le (Utf.byteAt s p)
        unfold Utf.wideAt at *
        omega
      have hend : p + Utf.wideAt s p ≤ s.size := by unfold Utf.okB at hok; simp at hok; omega
      have HM := Lib.hid (r3_At_ok s p wa hs hlt hok)
      obtain ⟨wi, hwi⟩ : ∃ x, x = Utf.wideAt s p := ⟨_, rfl⟩
      obtain ⟨ru, hru⟩ : ∃ x, x = Utf.runeAt s p := ⟨_, rfl⟩
      rw [← hwi] at hwide hend hr' HM
      rw [← hru] at hre HM
      clear hwi hru
      have HR' := Lib.hid hr'
      have HRE := Lib.hid hre
      have HLN : Hid ((i32s pre).length = pre.length) := by unfold Hid i32s; simp
      clear hok hr' hre HR
      have hwb : wi ≤ s.size := by omega
      go_wp2_with (first
        | (go_at_call 111; refine HM.out.mono ?_; rintro e w' ⟨rfl, rfl⟩)
        | (at_builtin; refine wpList_append1 rfl _ _ _ rfl 21 (.int .i32 0) 4 Tryz.underlying261 info_i32 rfl u4 (i32s pre) (by rfl) (by exact HL4.out.kept (bs := []) (by (repeat (first | exact Chg.refl _ _ | with_reducible refine Chg.drewN ?_ _ | with_reducible refine Chg.drew ?_ | with_reducible refine Chg.alloc ?_ _ | with_reducible refine Chg.setCell ?_ _ _ (by simp) | with_reducible refine Chg.setCell ?_ _ _ (by simp; omega)))) (by simp)) wa.heap.size (.int .i32 ru) (by rfl) (by exact cell_new (by simp) _ _) rfl (by rw [HLN.out]; omega) (by rw [HLN.out]; omega) ?_; rw [HLN.out]; intro g cap' w3 hL3 hC3 hG3; obtain ⟨nb, hnb⟩ : ∃ x, x = w3.heap.size := ⟨_, rfl⟩; have HL3 := Lib.hid hL3; have HC3 := Lib.hid hC3; have HG3 := Lib.hid hG3; have HL5a := Lib.hid ((HL5.out.kept ((Chg.refl wa []).alloc (.cells #[.int .i32 ru] 21)) (by simp)).kept hC3 (fun g hg hm => HD.out g (by simpa using hm) hg)); clear hL3 hC3 hG3)
        | (at_builtin; refine wpList_append1 rfl _ _ _ rfl 3 (.int .i64 0) 8 Tryz.underlying262 info_i64 rfl u5 ys (by rfl) (by exact HL5a.out.kept (bs := []) (by (repeat (first | exact Chg.refl _ _ | with_reducible refine Chg.drewN ?_ _ | with_reducible refine Chg.drew ?_ | with_reducible refine Chg.alloc ?_ _ | with_reducible refine Chg.setCell ?_ _ _ (by simp) | with_reducible refine Chg.setCell ?_ _ _ (by simp; omega)))) (by simp)) w3.heap.size (.int .i64 p) (by rfl) (by exact cell_new (by simp) _ _) rfl (by omega) (by omega) ?_; intro g5 cap5 w5 hL5b hC5 hG5; have HL5b := Lib.hid hL5b; have HC5 := Lib.hid hC5; have HG5 := Lib.hid hG5; clear hL5b hC5 hG5))
      go_roundw
      case rel =>
        have G1 : Chg w w3 [] := Chg.own (sv := .slice none 0 0) (by (repeat (first | exact HG.out | with_reducible refine Chg.drewN ?_ _ | with_reducible refine Chg.drew ?_ | with_reducible refine Chg.alloc ?_ _ | with_reducible refine Chg.setCell ?_ _ _ (by simp) | with_reducible refine Chg.setCell ?_ _ _ (by simp; omega)))) HC3.out (fun g hg => by cases hg) (fun g hg => .inr (HO4.out g hg))
        have G2 : Chg w w5 [] := Chg.own (sv := .slice none 0 0) (by (repeat (first | exact G1 | with_reducible refine Chg.drewN ?_ _ | with_reducible refine Chg.drew ?_ | with_reducible refine Chg.alloc ?_ _ | with_reducible refine Chg.setCell ?_ _ _ (by simp) | with_reducible refine Chg.setCell ?_ _ _ (by simp; omega)))) HC5.out (fun g hg => by cases hg) (fun g hg => .inr (HO5.out g hg))
        have z1 := HG.out.size
        have z2 := G1.size
        have z3 := HC3.out.size
        simp only [World.size_alloc] at z3
        have hgg : g ≠ g5 := by
          intro he
          rcases HG5.out with h | h
          · have l5 := HL5.out.lt h
            rcases HG3.out with h' | h'
            · exact HD.out _ h' (he ▸ h)
            · simp at h'; omega
          · have l3 := HL3.out.lt (g := g) rfl
            simp at h; omega
        refine ⟨p + wi, k', pre ++ [ru], rest', ys ++ [.int .i64 p], by omega, by omega, by go_num, HR'.out, by rw [HLE.out, HRE.out]; simp, by simp; omega, by simp; omega, ?_, by simpa using HL5b.out, G2, ?_, ?_, ?_⟩
        · have h := (HL3.out.kept ((Chg.refl w3 []).alloc (.cells #[.int .i64 p] 3)) (by simp)).kept HC5.out (fun g' hg' hm => by
            simp [Value.ownBlock] at hg'; subst hg'
            have h5 : u5.ownBlock = some g := by simpa using hm
            rcases HG3.out with h' | h'
            · exact HD.out _ h' h5
            · have l5 := HL5.out.lt h5
              simp at h'; omega)
          rw [show i32s (pre ++ [ru]) = i32s pre ++ [.int .i32 ru] from by simp [i32s]]
          exact h
        · intro g' hg'
          simp [Value.ownBlock] at hg'; subst hg'
          rcases HG3.out with h | h
          · exact HO4.out _ h
          · simp at h; omega
        · intro g' hg'
          simp [Value.ownBlock] at hg'; subst hg'
          rcases HG5.out with h | h
          · exact HO5.out _ h
          · simp at h; omega
        · intro g' h1 h2
          simp [Value.ownBlock] at h1 h2
          omega
      case measure => simp [intOf]; omega
    · obtain rfl : p = s.size := by omega
      have hre : rest = [] := by
        have := HR.out
        cases k with
        | zero => simp [Utf.runesF] at this; exact this
        | succ k => simp [Utf.runesF] at this; exact this
      subst hre
      have hLE := HLE.out
      rw [List.append_nil] at hLE
      subst hLE
      go_wp2
      go_ret2
      exact ⟨⟨_, _, rfl, HL4.out, HO4.out⟩, HG.out⟩
end Go.Proofs.YtfdhgakalojahaaGreatDoor

namespace Go.Proofs.YtfdhgakalojahaaGreatDoor
open Go Go.RowKit

/-- a slice whose cells read xs, with room behind them that is not looked at -/
def RowC (w : World) (sl : Value) (sz n : Nat) (xs : List Value) : Prop :=
  ∃ a c, sl = .slice a n c ∧ n ≤ c ∧ xs.length = n * sz ∧ ∀ i v, xs[i]? = some v → ∃ b o, a = some ⟨b, o, none⟩ ∧ w.cell? ⟨b, o + i, none⟩ = some v

theorem RowC.kept {w w' : World} {sl : Value} {sz n : Nat} {xs : List Value} (h : RowC w sl sz n xs) (hc : Chg w w' []) : RowC w' sl sz n xs := by
  obtain ⟨a, c, h1, h2, h3, h4⟩ := h
  exact ⟨a, c, h1, h2, h3, fun i v hv => by obtain ⟨b, o, e1, e2⟩ := h4 i v hv; exact ⟨b, o, e1, hc.keeps e2⟩⟩

theorem RowC.form {w : World} {sl : Value} {sz n : Nat} {xs : List Value} (h : RowC w sl sz n xs) : ∃ a c, sl = .slice a n c ∧ n ≤ c ∧ xs.length = n * sz := by
  obtain ⟨a, c, h1, h2, h3, _⟩ := h; exact ⟨a, c, h1, h2, h3⟩

theorem RowC.get {w : World} {a : Option Addr} {sz n m c : Nat} {xs : List Value} (h : RowC w (.slice a m c) sz n xs) {i : Nat} {v : Value} (hv : xs[i]? = some v) : ∃ b o, a = some ⟨b, o, none⟩ ∧ w.cell? ⟨b, o + i, none⟩ = some v := by
  obtain ⟨a', c', h1, _, _, h4⟩ := h
  injection h1 with e1 _ _
  subst e1
  exact h4 i v hv

/-- all cells of a slice that is not empty -/
theorem RowC.base {w : World} {a : Option Addr} {sz n m c : Nat} {xs : List Value} (h : RowC w (.slice a m c) sz n xs) (hn : 0 < n) (hs : 0 < sz) : ∃ b o, a = some ⟨b, o, none⟩ ∧ ∀ i v, xs[i]? = some v → w.cell? ⟨b, o + i, none⟩ = some v := by
  obtain ⟨a', c', h1, _, h3, h4⟩ := h
  injection h1 with e1 _ _
  subst e1
  have : 0 < xs.length := by rw [h3]; exact Nat.mul_pos hn hs
  obtain ⟨b, o, e, _⟩ := h4 0 xs[0] (List.getElem?_eq_getElem this)
  refine ⟨b, o, e, fun i v hv => ?_⟩
  obtain ⟨b', o', e', hc⟩ := h4 i v hv
  rw [e] at e'
  injection e' with e'
  injection e' with e1 e2
  subst e1; subst e2
  exact hc

theorem RowC.tail {w : World} {a : Option Addr} {sz n c : Nat} {xs : List Value} (h : RowC w (.slice a n c) sz n xs) (k m c' : Nat) (hm : n = m + k) (hc : m ≤ c') : RowC w (.slice (Option.map (fun x => x.add (k * sz)) a) m c') sz m (xs.drop (k * sz)) := by
  obtain ⟨a', c'', h1, h2, h3, h4⟩ := h
  injection h1 with e1 _ _
  subst e1
  refine ⟨_, _, rfl, hc, by rw [List.length_drop, h3, hm, Nat.add_mul]; omega, fun i v hv => ?_⟩
  rw [List.getElem?_drop] at hv
  obtain ⟨b, o, e, hcell⟩ := h4 _ v hv
  subst e
  refine ⟨b, o + k * sz, ?_, by rw [Nat.add_assoc]; exact hcell⟩
  simp [add_lit]

theorem RowC.tail1 {w : World} {b o : Nat} {n c : Nat} {x : Value} {xs : List Value} (h : RowC w (.slice (some ⟨b, o, none⟩) (n + 1) c) 1 (n + 1) (x :: xs)) (c' : Nat) (hc : n ≤ c') : RowC w (.slice (some ⟨b, o + 1, none⟩) n c') 1 n xs := by
  have := h.tail 1 n c' rfl hc
  simpa [add_lit] using this

theorem RowC.none1 {w : World} {a a' : Option Addr} {n c : Nat} {x : Value} {xs : List Value} {sz : Nat} (h : RowC w (.slice a (n + 1) c) sz (n + 1) (x :: xs)) (hn : n = 0) (hs : sz = 1) (c' : Nat) : RowC w (.slice a' n c') sz n xs := by
  obtain ⟨_, _, _, _, h3, _⟩ := h
  subst hn; subst hs
  have : xs = [] := by simpa using h3
  subst this
  exact ⟨_, _, rfl, Nat.zero_le _, by simp, fun i v hv => by simp at hv⟩

theorem RowC.next {w : World} {b o : Nat} {m M c : Nat} {x : Value} {xs : List Value} (h : RowC w (.slice (some ⟨b, o, none⟩) m c) 1 m (x :: xs)) (c' : Nat) (hM : M = xs.length) (hc : M ≤ c') : RowC w (.slice (some ⟨b, o + 1, none⟩) M c') 1 xs.length xs := by
  subst hM
  have hm : m = xs.length + 1 := by obtain ⟨_, _, _, _, h3, _⟩ := h; simp at h3; omega
  subst hm
  exact h.tail1 c' hc

theorem RowC.nextNone {w : World} {a : Option Addr} {M c : Nat} {xs : List Value} (hx : xs.length = 0) (hM : M = xs.length) : RowC w (.slice a M c) 1 xs.length xs := by
  have : xs = [] := List.eq_nil_of_length_eq_zero hx
  subst this
  subst hM
  exact ⟨_, _, rfl, Nat.zero_le _, by simp, fun i v hv => by simp at hv⟩

theorem RowC.nextZ {w : World} {b o sz : Nat} {m M n c : Nat} {us xs : List Value} (h : RowC w (.slice (some ⟨b, o, none⟩) m c) sz m (us ++ xs)) (c' : Nat) (hu : us.length = sz) (hM : m = M + 1) (hn : M = n) (hc : M ≤ c') : RowC w (.slice (some ⟨b, o + sz, none⟩) M c') sz n xs := by
  subst hn
  have h1 := h.tail 1 M c' hM hc
  rw [Nat.one_mul, List.drop_append, List.drop_of_length_le (by omega), hu, Nat.sub_self, List.drop_zero, List.nil_append] at h1
  simpa [add_lit] using h1

theorem RowC.nextZNone {w : World} {a : Option Addr} {sz M n c : Nat} {xs : List Value} (hM : M = 0) (hn : n = 0) (hx : xs.length = 0) : RowC w (.slice a M c) sz n xs := by
  subst hM; subst hn
  have : xs = [] := List.eq_nil_of_length_eq_zero hx
  subst this
  exact ⟨_, _, rfl, Nat.zero_le _, by simp, fun i v hv => by simp at hv⟩

theorem RowC.head {w : World} {a : Option Addr} {sz n c : Nat} {xs : List Value} (h : RowC w (.slice a n c) sz n xs) (k : Nat) (hk : k ≤ n) : RowC w (.slice a k c) sz k (xs.take (k * sz)) := by
  obtain ⟨a', c'', h1, h2, h3, h4⟩ := h
  injection h1 with e1 _ e3
  subst e1; subst e3
  refine ⟨_, _, rfl, by omega, by rw [List.length_take, h3]; exact Nat.min_eq_left (Nat.mul_le_mul_right _ hk), fun i v hv => ?_⟩
  have hi : i < k * sz := by
    have := (List.getElem?_eq_some_iff.1 hv).1
    rw [List.length_take] at this; omega
  rw [List.getElem?_take_of_lt hi] at hv
  exact h4 i v hv

theorem Lst.rowC {w : World} {sv : Value} {e : TypeId} {xs : List Value} (h : Lst w sv e xs) : RowC w sv 1 xs.length xs := by
  obtain ⟨a, c, rfl, hne⟩ := h.form
  have hc := h.capLe
  refine ⟨a, c, rfl, hc.2, by simp, fun i v hv => ?_⟩
  obtain ⟨g, rfl⟩ := hne (by intro h0; subst h0; simp at hv)
  exact ⟨g, 0, rfl, by rw [Nat.zero_add]; exact h.cell rfl i v hv⟩

/-- how long a slice is -/
def slen : Value → Nat
  | .slice _ n _ => n
  | _ => 0
end Go.Proofs.YtfdhgakalojahaaGreatDoor

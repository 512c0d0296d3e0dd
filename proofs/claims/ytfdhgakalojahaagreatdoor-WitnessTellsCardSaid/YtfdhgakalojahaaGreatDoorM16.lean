/- WALKS: the program's layer 6 at the alphabet of sixteen letters: bytes written as letters. -/
import Derived.StillTailTactics
import Derived.Deep.LoopGhost
import Derived.Outline
import Derived.BigQuiet
import Derived.Deep.RegionHeld3
import Derived.Deep.RegionLaw
import Derived.Deep.QuietTactic
import Derived.Test.YtfdhgakalojahaaGreatDoorM13
import Derived.Test.YtfdhgakalojahaaGreatDoorM14
import Derived.Test.YtfdhgakalojahaaGreatDoorM03
set_option linter.unusedSimpArgs false
set_option linter.unusedVariables false
set_option linter.unnecessarySimpa false
set_option linter.unusedSectionVars false
namespace Go.Proofs.YtfdhgakalojahaaGreatDoor
open Go Go.RowKit

theorem cell_new {w : World} {B : Nat} (hB : w.heap.size = B) (v : Value) (T : TypeId) : (w.alloc (.cells #[v] T)).cell? ⟨B, 0, none⟩ = some v := by
  subst hB; rw [World.cell?_alloc_mark]; rfl

theorem Lst.norm {w : World} {a : Option Addr} {n n' cap : Nat} {e : TypeId} {xs xs' : List Value} (h : Lst w (.slice a n cap) e xs) (hn : n = n') (hx : xs = xs') : Lst w (.slice a n' cap) e xs' := by
  subst hn; subst hx; exact h

theorem own_step {w W : World} {v sv : Value} {g n cap : Nat} (hO : ∀ g, v.ownBlock = some g → sv.ownBlock = some g ∨ w.heap.size ≤ g) (hG : v.ownBlock = some g ∨ g = W.heap.size) (hs : w.heap.size ≤ W.heap.size) :
    ∀ g', (Value.slice (some ⟨g, 0, none⟩) n cap).ownBlock = some g' → sv.ownBlock = some g' ∨ w.heap.size ≤ g' := by
  intro g' hg
  simp [Value.ownBlock] at hg
  subst hg
  rcases hG with h | h
  · exact hO _ h
  · exact .inr (by omega)

theorem Chg.own {w W W' : World} {v sv : Value} {bs : List Nat} (h : Chg w W bs) (k : Chg W W' v.ownBlock.toList) (hb : ∀ g, sv.ownBlock = some g → g ∈ bs) (hO : ∀ g, v.ownBlock = some g → sv.ownBlock = some g ∨ w.heap.size ≤ g) : Chg w W' bs :=
  h.step k fun i hi hlt => by
    rcases hO i (by simpa using hi) with h | h
    · exact hb i h
    · omega

def hexA : ByteArray := ⟨#[48, 49, 50, 51, 52, 53, 54, 55, 56, 57, 97, 98, 99, 100, 101, 102]⟩

theorem base_letters_hex (w : World) : Calls Tryz.prog 110 #[.int .u8 1] w fun e w' => e = .returned (.string hexA) ∧ w = w' := by
  go_enter Tryz.func110, Tryz.ntmps110
  go_wp2
  go_ret
  exact ⟨rfl, rfl⟩

theorem base_letters_hex' (w : World) : Calls Tryz.prog 110 #[.int .u8 1] w fun e w' => e = .returned (.string hexA) ∧ w' = w :=
  (base_letters_hex w).mono fun _ _ h => ⟨h.1, h.2.symm⟩

theorem base_bits_hex (w : World) : Calls Tryz.prog 86 #[.int .u8 1] w fun e w' => e = .returned (.int .i64 4) ∧ w = w' := by
  have hx : hexA.toList.isEmpty = false := by rw [ByteArray.toList_eq]; rfl
  go_enter Tryz.func86, Tryz.ntmps86
  go_wp2_with (first | (go_at_call 110; refine (base_letters_hex _).mono ?_; rintro e w' ⟨rfl, rfl⟩))
  go_ret
  exact ⟨rfl, rfl⟩

theorem hexA_size : hexA.size = 16 := rfl

theorem and15 (n : Nat) (hn : n < 4294967296) : bits BinOp.and IntKind.u32 (n : Int) (IntKind.u32.wrap (IntKind.u32.wrap 16 - 1)) = ((n % 16 : Nat) : Int) := by
  rw [show IntKind.u32.wrap (IntKind.u32.wrap 16 - 1) = ((15 : Nat) : Int) from by decide, u32_and_nat n 15 (by omega) (by omega)]
  congr 1
  exact Nat.and_two_pow_sub_one_eq_mod n 4

theorem and15' (n : Nat) (hn : n < 256) : bits BinOp.and IntKind.u32 ((n : Int) / 16) (IntKind.u32.wrap (IntKind.u32.wrap 16 - 1)) = ((n / 16 : Nat) : Int) := by
  rw [show (n : Int) / 16 = ((n / 16 : Nat) : Int) from by omega, and15 (n / 16) (by omega), Nat.mod_eq_of_lt (by omega)]

theorem and0 (n : Nat) (hn : n < 4294967296) : bits BinOp.and IntKind.u32 (n : Int) (IntKind.u32.wrap (IntKind.u32.wrap 1 - 1)) = 0 := by
  rw [show IntKind.u32.wrap (IntKind.u32.wrap 1 - 1) = ((0 : Nat) : Int) from by decide, u32_and_nat n 0 (by omega) (by omega)]
  simp

/-- the letter of a number -/
def hexD (n : Nat) : Nat := if n < 10 then 48 + n else 87 + n

theorem hexA_get (n : Nat) (h : n < hexA.size) : hexA[n].toNat = hexD n := by
  have h' : n < 16 := h
  have : n = 0 ∨ n = 1 ∨ n = 2 ∨ n = 3 ∨ n = 4 ∨ n = 5 ∨ n = 6 ∨ n = 7 ∨ n = 8 ∨ n = 9 ∨ n = 10 ∨ n = 11 ∨ n = 12 ∨ n = 13 ∨ n = 14 ∨ n = 15 := by omega
  rcases this with rfl | rfl | rfl | rfl | rfl | rfl | rfl | rfl | rfl | rfl | rfl | rfl | rfl | rfl | rfl | rfl <;> rfl

def hexV (s : ByteArray) (k : Nat) : List Value := (List.range k).flatMap fun i => [.int .u8 (hexD (Utf.byteAt s i / 16)), .int .u8 (hexD (Utf.byteAt s i % 16))]

theorem hexV_succ (s : ByteArray) (k : Nat) : hexV s (k + 1) = hexV s k ++ [.int .u8 (hexD (Utf.byteAt s k / 16)), .int .u8 (hexD (Utf.byteAt s k % 16))] := by
  unfold hexV; rw [List.range_succ, List.flatMap_append]; simp

theorem hexV_length (s : ByteArray) (k : Nat) : (hexV s k).length = 2 * k := by
  induction k with
  | zero => rfl
  | succ k ih => rw [hexV_succ, List.length_append, ih]; simp; omega

theorem or0 (c : Nat) (hc : c < 256) : bits BinOp.or IntKind.u32 (IntKind.u32.wrap 0) (IntKind.u32.wrap (c : Int)) = c := by
  rw [show IntKind.u32.wrap 0 = ((0 : Nat) : Int) from rfl, IntWalk.u32_in (c : Int) ⟨by omega, by omega⟩, u32_or_nat 0 c (by omega) (by omega)]
  simp

def hexC (s : ByteArray) (k : Nat) : List Value := [.int .u8 (hexD (Utf.byteAt s k / 16)), .int .u8 (hexD (Utf.byteAt s k % 16))]

def WR (rest many : Int) : List Value := [.int .u8 1, .int .u32 rest, .int .i64 many]

def PutPost (b : Nat) (sv : Value) (vs : List Value) (s : ByteArray) (w : World) (e : Ending) (w' : World) : Prop :=
  ∃ sv', e = .returned sv' ∧ Lst w' sv' 5 (vs ++ hexV s s.size) ∧ Blk w' b (WR 0 0) 166 ∧ Chg w w' (b :: sv.ownBlock.toList) ∧ ∀ g, sv'.ownBlock = some g → sv.ownBlock = some g ∨ w.heap.size ≤ g

set_option maxRecDepth 100000 in
set_option maxHeartbeats 2000000 in
theorem base_put_hex (b : Nat) (sv : Value) (vs : List Value) (s : ByteArray) (w : World) (hB : Blk w b (WR 0 0) 166) (hL : Lst w sv 5 vs) (hne : ∀ g, sv.ownBlock = some g → g ≠ b)
    (hs : s.size ≤ 2147483648) (hv : vs.length ≤ 2147483648) :
    Calls Tryz.prog 85 #[.pointer (some ⟨b, 0, none⟩), sv, .string s] w (PutPost b sv vs s w) := by
  have HB := Lib.hid hB
  have HL := Lib.hid hL
  have HNE := Lib.hid hne
  have c0 : w.cell? ⟨b, 0, none⟩ = some (.int .u8 1) := hB.cell 0
  have lb := hB.lt
  clear hB hL hne
  go_enter Tryz.func85, Tryz.ntmps85
  go_wp2_with (first | (go_at_call 86; refine (base_bits_hex _).mono ?_; rintro e w' ⟨rfl, rfl⟩))
  go_loopw [1, 8] (fun v i wr => ∃ k : Nat, k ≤ s.size ∧ i = .int .i64 k ∧ Lst wr v 5 (vs ++ hexV s k) ∧ Blk wr b (WR 0 0) 166 ∧ Chg w wr (b :: sv.ownBlock.toList) ∧ ∀ g, v.ownBlock = some g → sv.ownBlock = some g ∨ w.heap.size ≤ g)
    (fun _ i _ => s.size - (intOf i).toNat)
  case atStart => exact ⟨0, by omega, rfl, by simpa [hexV] using HL.out, HB.out, Chg.refl _ _, fun g h => .inl h⟩
  case round =>
    obtain ⟨wa, rfl⟩ : ∃ x, x = wr := ⟨_, rfl⟩
    obtain ⟨k, hk, rfl, hL, hB, hg, ho⟩ := hrel
    have d0 : wa.cell? ⟨b, 0, none⟩ = some (.int .u8 1) := hB.cell 0
    have d1 : wa.cell? ⟨b, 1, none⟩ = some (.int .u32 0) := hB.cell 1
    have d2 : wa.cell? ⟨b, 2, none⟩ = some (.int .i64 0) := hB.cell 2
    have df : ∀ j, wa.frozen? ⟨b, j, none⟩ = false := fun j => hB.frozen j
    have lbr := hB.lt
    by_cases hlt : k < s.size
    · have HX := Lib.hid (Utf.byteAt_eq hlt)
      have HL2 := Lib.hid hL
      have HB2 := Lib.hid hB
      have HG := Lib.hid hg
      have HO := Lib.hid ho
      clear hL hB hg ho
      have HNB : Hid (∀ (v : Value), (∀ g, v.ownBlock = some g → sv.ownBlock = some g ∨ w.heap.size ≤ g) → ∀ g, v.ownBlock = some g → g ∉ [b]) := by
        intro v hv g hg hm
        simp at hm; subst hm
        rcases hv _ hg with h | h
        · exact HNE.out _ h rfl
        · omega
      have hor : bits BinOp.or IntKind.u32 (IntKind.u32.wrap 0) (IntKind.u32.wrap ↑s[k].toNat) = ↑s[k].toNat := or0 s[k].toNat s[k].toNat_lt
      go_wp2
      go_still_tail 13, (by kernel_rfl)
      go_wp2
      clear hor
      go_loopg [1] 2 (fun m v wq => ∃ j : Nat, j ≤ 2 ∧ m = 2 - j ∧ Lst wq v 5 (vs ++ hexV s k ++ (hexC s k).take j) ∧ Blk wq b (WR s[k].toNat (8 - 4 * j)) 166 ∧ Chg w wq (b :: sv.ownBlock.toList) ∧ ∀ g, v.ownBlock = some g → sv.ownBlock = some g ∨ w.heap.size ≤ g)
      case atStart =>
        refine ⟨0, by omega, rfl, ?_, ?_, ?_, HO.out⟩
        · simp only [List.take_zero, List.append_nil]
          refine HL2.out.kept (bs := [b]) ?_ (HNB.out _ HO.out)
          (repeat (first | exact Chg.refl _ _ | with_reducible refine Chg.drewN ?_ _ | with_reducible refine Chg.drew ?_ | with_reducible refine Chg.alloc ?_ _ | with_reducible refine Chg.setCell ?_ _ _ (by simp) | with_reducible refine Chg.setCell ?_ _ _ (by simp; omega)))
        · (apply Blk.eq; (· (repeat (first | exact HB2.out | with_reducible apply Blk.drewN | with_reducible apply Blk.drew | with_reducible apply Blk.alloc | with_reducible apply Blk.set | (with_reducible apply Blk.set_other; rotate_left; (· first | (simp; done) | (simp; omega)))))); rfl)
        · (repeat (first | exact HG.out | with_reducible refine Chg.drewN ?_ _ | with_reducible refine Chg.drew ?_ | with_reducible refine Chg.alloc ?_ _ | with_reducible refine Chg.setCell ?_ _ _ (by simp) | with_reducible refine Chg.setCell ?_ _ _ (by simp; omega)))
      case round =>
        obtain ⟨j, hj, rfl, hL, hB, hg, ho⟩ := hrel
        have e0 : wr.cell? ⟨b, 0, none⟩ = some (.int .u8 1) := hB.cell 0
        have e1 : wr.cell? ⟨b, 1, none⟩ = some (.int .u32 s[k].toNat) := hB.cell 1
        have e2 : wr.cell? ⟨b, 2, none⟩ = some (.int .i64 (8 - 4 * j)) := hB.cell 2
        have ef : ∀ j, wr.frozen? ⟨b, j, none⟩ = false := fun j => hB.frozen j
        have lbq := hB.lt
        have HL3 := Lib.hid hL
        have HB3 := Lib.hid hB
        have HG3 := Lib.hid hg
        have HO3 := Lib.hid ho
        have HLN : Hid ((vs ++ hexV s k ++ (hexC s k).take j).length = vs.length + 2 * k + j) := by
          unfold Hid; rw [List.length_append, List.length_append, hexV_length, List.length_take]; simp [hexC]; omega
        have HNB2 : Hid (∀ (v : Value), (∀ g, v.ownBlock = some g → sv.ownBlock = some g ∨ w.heap.size ≤ g) → b ∉ v.ownBlock.toList) := by
          intro v hv hm
          simp at hm
          rcases hv b hm with h | h
          · exact HNE.out _ h rfl
          · omega
        clear hL hB hg ho
        obtain rfl | rfl | rfl : j = 0 ∨ j = 1 ∨ j = 2 := by omega
        · have e2' : wr.cell? ⟨b, 2, none⟩ = some (.int .i64 8) := e2
          have hc := s[k].toNat_lt
          have HA := Lib.hid (and15' s[k].toNat (Nat.lt_of_lt_of_le hc (by decide)))
          obtain ⟨n, hn⟩ : ∃ n, n = (if 0 = 0 then s[k].toNat / 16 else s[k].toNat % 16) := ⟨_, rfl⟩
          have HN := Lib.hid hn
          have hn16 : (n : Int) < (hexA.size : Int) := by rw [hexA_size, hn]; simp; omega
          have hn16' : n < hexA.size := by rw [hexA_size, hn]; simp; omega
          simp at hn
          rw [← hn] at HA
          clear hn e2
          go_wp2
          have HB5 : Hid (Blk (wr.setCell ⟨b, 2, none⟩ (.int .i64 4)) b (WR s[k].toNat 4) 166) := HB3.out.set 2 _
          have ha := HA.out
          go_region_held3 (fun w' => w'.cell? ⟨b, 0, none⟩ = some (.int .u8 1) ∧ w'.cell? ⟨b, 1, none⟩ = some (.int .u32 s[k].toNat) ∧ w'.cell? ⟨b, 2, none⟩ = some (.int .i64 4))
            (first | exact ⟨HB5.out.drew.cell 0, HB5.out.drew.cell 1, HB5.out.drew.cell 2⟩ | exact ⟨(HB5.out.drew.alloc _).cell 0, (HB5.out.drew.alloc _).cell 1, (HB5.out.drew.alloc _).cell 2⟩ | exact ⟨HB4.out.cell 0, HB4.out.cell 1, HB4.out.cell 2⟩)
            (first | (refine step_append1 rfl _ _ _ rfl 5 (.int .u8 0) 1 Tryz.underlying90 info_byte rfl u1 _ (by rfl) (by exact (HL3.out.kept (bs := [b]) (by (repeat (first | exact Chg.refl _ _ | with_reducible refine Chg.drewN ?_ _ | with_reducible refine Chg.drew ?_ | with_reducible refine Chg.alloc ?_ _ | with_reducible refine Chg.setCell ?_ _ _ (by simp) | with_reducible refine Chg.setCell ?_ _ _ (by simp; omega)))) (HNB.out _ HO3.out))) wr.heap.size (.int .u8 hexA[n].toNat) (by rfl) (by exact cell_new (by simp) _ _) (by rfl) (by rw [HLN.out]; omega) (by rw [HLN.out]; omega) ?_; intro g cap w3 hL4 hC4 hG4; have HL4 := Lib.hid hL4; have HC4 := Lib.hid hC4; have HG4 := Lib.hid hG4; have HB4 := Lib.hid ((HB5.out.drew.alloc _).kept hC4 (HNB2.out _ HO3.out)); clear hL4 hC4 hG4) | (go_at_call 110; refine (base_letters_hex _).mono ?_; rintro e w2 ⟨rfl, rfl⟩))
          clear ha
          go_wp2
          go_roundg (2 - 1)
          case measure => omega
          case rel =>
            have G1 := HG3.out
            have hsz := HG3.out.size
            refine ⟨1, by omega, by omega, ?_, HB4.out, Chg.own (sv := sv) (by (repeat (first | exact G1 | with_reducible refine Chg.drewN ?_ _ | with_reducible refine Chg.drew ?_ | with_reducible refine Chg.alloc ?_ _ | with_reducible refine Chg.setCell ?_ _ _ (by simp) | with_reducible refine Chg.setCell ?_ _ _ (by simp; omega)))) HC4.out (fun g hg => by simp [hg]) HO3.out, own_step HO3.out HG4.out (by simp; omega)⟩
            refine HL4.out.norm (by simp [hexC]) ?_
            have e1 : hexA[n].toNat = hexD n := by rw [hexA_get]
            rw [e1, HN.out, ← HX.out]; simp [hexC]
        · have e2' : wr.cell? ⟨b, 2, none⟩ = some (.int .i64 4) := e2
          have hc := s[k].toNat_lt
          have HA := Lib.hid (and15 s[k].toNat (Nat.lt_of_lt_of_le hc (by decide)))
          obtain ⟨n, hn⟩ : ∃ n, n = (if 1 = 0 then s[k].toNat / 16 else s[k].toNat % 16) := ⟨_, rfl⟩
          have HN := Lib.hid hn
          have hn16 : (n : Int) < (hexA.size : Int) := by rw [hexA_size, hn]; simp; omega
          have hn16' : n < hexA.size := by rw [hexA_size, hn]; simp; omega
          simp at hn
          rw [← hn] at HA
          clear hn e2
          go_wp2
          have HB5 : Hid (Blk (wr.setCell ⟨b, 2, none⟩ (.int .i64 0)) b (WR s[k].toNat 0) 166) := HB3.out.set 2 _
          have ha := HA.out
          go_region_held3 (fun w' => w'.cell? ⟨b, 0, none⟩ = some (.int .u8 1) ∧ w'.cell? ⟨b, 1, none⟩ = some (.int .u32 s[k].toNat) ∧ w'.cell? ⟨b, 2, none⟩ = some (.int .i64 0))
            (first | exact ⟨HB5.out.drew.cell 0, HB5.out.drew.cell 1, HB5.out.drew.cell 2⟩ | exact ⟨(HB5.out.drew.alloc _).cell 0, (HB5.out.drew.alloc _).cell 1, (HB5.out.drew.alloc _).cell 2⟩ | exact ⟨HB4.out.cell 0, HB4.out.cell 1, HB4.out.cell 2⟩)
            (first | (refine step_append1 rfl _ _ _ rfl 5 (.int .u8 0) 1 Tryz.underlying90 info_byte rfl u1 _ (by rfl) (by exact (HL3.out.kept (bs := [b]) (by (repeat (first | exact Chg.refl _ _ | with_reducible refine Chg.drewN ?_ _ | with_reducible refine Chg.drew ?_ | with_reducible refine Chg.alloc ?_ _ | with_reducible refine Chg.setCell ?_ _ _ (by simp) | with_reducible refine Chg.setCell ?_ _ _ (by simp; omega)))) (HNB.out _ HO3.out))) wr.heap.size (.int .u8 hexA[n].toNat) (by rfl) (by exact cell_new (by simp) _ _) (by rfl) (by rw [HLN.out]; omega) (by rw [HLN.out]; omega) ?_; intro g cap w3 hL4 hC4 hG4; have HL4 := Lib.hid hL4; have HC4 := Lib.hid hC4; have HG4 := Lib.hid hG4; have HB4 := Lib.hid ((HB5.out.drew.alloc _).kept hC4 (HNB2.out _ HO3.out)); clear hL4 hC4 hG4) | (go_at_call 110; refine (base_letters_hex _).mono ?_; rintro e w2 ⟨rfl, rfl⟩))
          clear ha
          go_wp2
          go_roundg (2 - 2)
          case measure => omega
          case rel =>
            have G1 := HG3.out
            have hsz := HG3.out.size
            refine ⟨2, by omega, by omega, ?_, HB4.out, Chg.own (sv := sv) (by (repeat (first | exact G1 | with_reducible refine Chg.drewN ?_ _ | with_reducible refine Chg.drew ?_ | with_reducible refine Chg.alloc ?_ _ | with_reducible refine Chg.setCell ?_ _ _ (by simp) | with_reducible refine Chg.setCell ?_ _ _ (by simp; omega)))) HC4.out (fun g hg => by simp [hg]) HO3.out, own_step HO3.out HG4.out (by simp; omega)⟩
            refine HL4.out.norm (by simp [hexC]) ?_
            have e1 : hexA[n].toNat = hexD n := by rw [hexA_get]
            rw [e1, HN.out, ← HX.out]; simp [hexC]
        · have e2' : wr.cell? ⟨b, 2, none⟩ = some (.int .i64 0) := e2
          have hz : bits BinOp.and IntKind.u32 ↑s[k].toNat (IntKind.u32.wrap (IntKind.u32.wrap 1 - 1)) = 0 := and0 s[k].toNat (Nat.lt_of_lt_of_le s[k].toNat_lt (by decide))
          clear e2
          go_wp2
          go_still_tail 13, (by kernel_rfl)
          go_wp2
          go_roundw
          case rel =>
            have G1 := HG3.out
            refine ⟨k + 1, by omega, by go_num, ?_, ?_, by (repeat (first | exact G1 | with_reducible refine Chg.drewN ?_ _ | with_reducible refine Chg.drew ?_ | with_reducible refine Chg.alloc ?_ _ | with_reducible refine Chg.setCell ?_ _ _ (by simp) | with_reducible refine Chg.setCell ?_ _ _ (by simp; omega))), HO3.out⟩
            · rw [hexV_succ]
              have := HL3.out
              simp only [hexC, List.take_succ_cons, List.take_zero, List.append_assoc] at this ⊢
              refine this.kept (bs := [b]) ?_ (HNB.out _ HO3.out)
              (repeat (first | exact Chg.refl _ _ | with_reducible refine Chg.drewN ?_ _ | with_reducible refine Chg.drew ?_ | with_reducible refine Chg.alloc ?_ _ | with_reducible refine Chg.setCell ?_ _ _ (by simp) | with_reducible refine Chg.setCell ?_ _ _ (by simp; omega)))
            · (apply Blk.eq; (· (repeat (first | exact HB3.out | with_reducible apply Blk.drewN | with_reducible apply Blk.drew | with_reducible apply Blk.alloc | with_reducible apply Blk.set | (with_reducible apply Blk.set_other; rotate_left; (· first | (simp; done) | (simp; omega)))))); rfl)
          case measure => simp [intOf]; omega
    · have hks : k = s.size := by omega
      subst hks
      have HL2 := Lib.hid hL
      have HB2 := Lib.hid hB
      have HG := Lib.hid hg
      have HO := Lib.hid ho
      clear hL hB hg ho
      go_wp2
      go_ret
      exact ⟨_, rfl, HL2.out, HB2.out, HG.out, HO.out⟩
end Go.Proofs.YtfdhgakalojahaaGreatDoor

/- WALKS: the reference's layer 6: the bytes of letters. -/
import Derived.BigQuiet
import Derived.OwnWalk
import Derived.Test.YtfdhgakalojahaaGreatDoorM11
import Derived.Test.YtfdhgakalojahaaGreatDoorM30
set_option linter.unusedSimpArgs false
set_option linter.unusedVariables false
set_option linter.unnecessarySimpa false
set_option linter.unusedSectionVars false
namespace Go.Proofs.YtfdhgakalojahaaGreatDoor
open Go Go.RowKit

def hx (s : ByteArray) (i : Nat) : Nat := (hexNum (Utf.byteAt s i)).toNat

theorem hx_lt (s : ByteArray) (i : Nat) : hx s i < 16 := by
  unfold hx hexNum
  repeat' split
  all_goals omega

/-- the cell that is under way behind i letters and j bits -/
def vI (s : ByteArray) (i j : Nat) : Nat := (if i % 2 = 1 then 16 * hx s (i - 1) else 0) + (if i % 2 = 1 then 1 else 16) * (hx s i / 2 ^ (4 - j) * 2 ^ (4 - j))

/-- the cells behind i letters -/
def cellsO (s : ByteArray) (n i : Nat) : List Value := unhexV s (i / 2) ++ ((if i % 2 = 1 then [Value.int .u8 ((16 * hx s (i - 1) : Nat) : Int)] else []) ++ List.replicate (n - (i + 1) / 2) (.int .u8 0))

theorem cellsO_len {s : ByteArray} {n i : Nat} (h : i ≤ 2 * n) : (cellsO s n i).length = n := by
  unfold cellsO
  rw [List.length_append, List.length_append, unhexV_length, List.length_replicate]
  split <;> simp <;> omega

theorem cellsO_zero (s : ByteArray) (n : Nat) : cellsO s n 0 = List.replicate n (.int .u8 0) := by
  unfold cellsO; simp [unhexV]

theorem unhexB_hx {s : ByteArray} (h : hexOK s = true) {j : Nat} (hj : 2 * j + 1 < s.size) : unhexB s j = ((16 * hx s (2 * j) + hx s (2 * j + 1) : Nat) : Int) := by
  unfold hexOK at h
  simp only [Bool.and_eq_true, decide_eq_true_eq, List.all_eq_true, List.mem_range] at h
  have h1 := h.2 (2 * j) (by omega)
  have h2 := h.2 (2 * j + 1) (by omega)
  unfold unhexB hx
  omega

theorem cellsO_start {s : ByteArray} {n i : Nat} (h : i < 2 * n) : (cellsO s n i).set (i / 2) (.int .u8 (vI s i 0)) = cellsO s n i := by
  have hv : vI s i 0 = if i % 2 = 1 then 16 * hx s (i - 1) else 0 := by
    have := hx_lt s i
    unfold vI
    rw [show 4 - 0 = 4 from rfl, Nat.div_eq_of_lt (show hx s i < 2 ^ 4 by omega)]; simp
  unfold cellsO
  rw [List.set_append_right _ _ (by rw [unhexV_length]; exact Nat.le_refl _), unhexV_length, Nat.sub_self, hv]
  congr 1
  by_cases g : i % 2 = 1
  · rw [if_pos g, if_pos g]; rfl
  · rw [if_neg g, if_neg g]
    obtain ⟨k, hk⟩ : ∃ k, n - (i + 1) / 2 = k + 1 := ⟨n - (i + 1) / 2 - 1, by omega⟩
    rw [hk]; rfl

theorem cellsO_end {s : ByteArray} (hok : hexOK s = true) {n i : Nat} (hn : s.size = 2 * n) (h : i < 2 * n) : (cellsO s n i).set (i / 2) (.int .u8 (vI s i 4)) = cellsO s n (i + 1) := by
  have hv : vI s i 4 = (if i % 2 = 1 then 16 * hx s (i - 1) else 0) + (if i % 2 = 1 then 1 else 16) * hx s i := by unfold vI; simp
  unfold cellsO
  rw [List.set_append_right _ _ (by rw [unhexV_length]; exact Nat.le_refl _), unhexV_length, Nat.sub_self, hv]
  by_cases g : i % 2 = 1
  · rw [if_pos g, if_pos g, if_pos g, if_neg (show ¬ (i + 1) % 2 = 1 by omega)]
    rw [show (i + 1) / 2 = i / 2 + 1 from by omega, show (i + 1 + 1) / 2 = i / 2 + 1 from by omega, unhexV_succ, unhexB_hx hok (by omega)]
    have e1 : 2 * (i / 2) = i - 1 := by omega
    have e2 : 2 * (i / 2) + 1 = i := by omega
    rw [e1, show i - 1 + 1 = i from by omega]
    simp
  · rw [if_neg g, if_neg g, if_neg g, if_pos (show (i + 1) % 2 = 1 by omega)]
    rw [show (i + 1) / 2 = i / 2 from by omega]
    obtain ⟨k, hk⟩ : ∃ k, n - i / 2 = k + 1 := ⟨n - i / 2 - 1, by omega⟩
    rw [show n - (i + 1 + 1) / 2 = k from by omega, hk]
    simp [List.replicate_succ]

theorem and_one (A : Nat) (h : A < 16) : bits BinOp.and IntKind.i64 (A : Int) 1 = ((A % 2 : Nat) : Int) := by
  have : ∀ a : Fin 16, bits BinOp.and IntKind.i64 (a.val : Int) 1 = ((a.val % 2 : Nat) : Int) := by decide
  exact this ⟨A, h⟩

theorem vI_step0 {s : ByteArray} {i j : Nat} (hj : j < 4) (h : hx s i / 2 ^ (3 - j) % 2 = 0) : vI s i (j + 1) = vI s i j := by
  have := hx_lt s i
  unfold vI
  have hj' : j = 0 ∨ j = 1 ∨ j = 2 ∨ j = 3 := by omega
  rcases hj' with rfl | rfl | rfl | rfl <;> simp at h ⊢ <;> split <;> omega

theorem vI_step1 {s : ByteArray} {i j : Nat} (hj : j < 4) (h : hx s i / 2 ^ (3 - j) % 2 = 1) : vI s i (j + 1) = vI s i j + 2 ^ (7 - ((i % 2) * 4 + j)) := by
  have := hx_lt s i
  unfold vI
  have hj' : j = 0 ∨ j = 1 ∨ j = 2 ∨ j = 3 := by omega
  have hi : i % 2 = 0 ∨ i % 2 = 1 := by omega
  rcases hi with g | g <;> rw [g] <;> rcases hj' with rfl | rfl | rfl | rfl <;> simp at h ⊢ <;> omega

theorem vI_lt (s : ByteArray) (i j : Nat) : vI s i j < 256 := by
  have h1 := hx_lt s i
  have h2 := hx_lt s (i - 1)
  have h3 : hx s i / 2 ^ (4 - j) * 2 ^ (4 - j) ≤ hx s i := Nat.div_mul_le_self _ _
  unfold vI
  split <;> omega

theorem Lst.blk {w : World} {g n : Nat} {e : TypeId} {xs : List Value} (h : Lst w (.slice (some ⟨g, 0, none⟩) n n) e xs) : Blk w g xs e := by
  rcases h.2 with ⟨h1, _⟩ | ⟨g', cap, cur, hv, _, hg, _, _, h5, h6⟩
  · cases h1
  · injection hv with hv hv2 hv3
    injection hv with hv
    injection hv with hv
    subst hv; subst hv3
    unfold Blk
    rw [hg, ← h6]
    congr 2
    rw [List.take_of_length_le (by simp; omega)]

theorem made_bytes (n : Nat) : (madeCells (Value.int .u8 0).cells (n * 1)).toList = List.replicate n (.int .u8 0) := by
  unfold madeCells
  rw [Nat.mul_one]
  apply List.ext_getElem
  · simp
  · intro i h1 h2
    have : i % 1 = 0 := Nat.mod_one i
    simp [Value.cells, this]

/-- 'make([]byte, n)' -/
theorem wpList_make_bytes {P : Program} {ops : Array Oper} {rest : List Oper} {o : Oper} {a : Act} {Q : Exit → Act → World → Prop} {w : World} (hg : o.guard = none) (l c : Operand) (t : TypeId) (hop : o.op = Op.makeSlice t l c)
    (e : TypeId) (bytes : Nat) (ht : P.underlying t = some (.slice e)) (hinfo : (P.info? e).map (fun i => (i.zero, i.size, i.bytes)) = some (some (.int .u8 0), 1, bytes)) (kl kc : IntKind) (n : Nat)
    (hl : a.eval l = .int kl (n : Int)) (hc : a.eval c = .int kc (n : Int)) (b2 : bytes * n ≤ 281474976710656) (b3 : n ≤ maxLen)
    (hK : ∀ w', Blk w' w.heap.size (List.replicate n (.int .u8 0)) e → Chg w w' [] → wpList P ops Q rest (a.put o.dst (.slice (some ⟨w.heap.size, 0, none⟩) n n)) w') :
    wpList P ops Q (o :: rest) a w := by
  obtain ⟨i, hi, hz, hsz, hby⟩ := info_parts hinfo
  subst hby
  obtain ⟨w', hr, h1, h2⟩ := run_make_full (P := P) w 0 t e i (.int .u8 0) 1 ht hi hz hsz kl kc n b2 b3 (Nat.zero_le _)
  rw [made_bytes] at h1
  have hb : Blk w' w.heap.size (List.replicate n (.int .u8 0)) e := Lst.blk (n := n) (by unfold Lst; rw [List.length_replicate]; exact h1)
  refine wpList_plain hg fun K hK' => ?_
  unfold Oper.wp
  simp only [execOp, hop, hl, hc, hr, Sem.run_bind, Result.andThen_ok, Sem.run_pure]
  exact hK' _ _ (hK w' hb ⟨h2.os, h2.tape, h2.output, h2.size, run_drawn _ _ _ _ hr, fun k hk _ => h2.block k hk (by simp)⟩)

/-- what the reference's reading of letters tells -/
def R6Post (s : ByteArray) (w : World) (e : Ending) (w' : World) : Prop :=
  ((hexOK s = true ∧ ∃ g, e = .returned (.tuple #[.slice (some ⟨g, 0, none⟩) (s.size / 2) (s.size / 2), .int .i64 0, .int .i64 0]) ∧ Blk w' g (unhexV s (s.size / 2)) 5) ∨
    (hexOK s = false ∧ ∃ (v : Value) (k a : Int), k ≠ 0 ∧ e = .returned (.tuple #[v, .int .i64 k, .int .i64 a]))) ∧ Chg w w' []

set_option maxRecDepth 100000 in
set_option maxHeartbeats 8000000 in
theorem r6_Read (s : ByteArray) (hs : s.size ≤ 2147483648) (w : World) : Calls Tryz.prog 43 #[.int .i64 1, .string s] w (R6Post s w) := by
  have HRM := Lib.hid fun w => r6_Room s.size hs w
  go_enter Tryz.func43, Tryz.ntmps43
  go_wp2_with (first | (go_at_call 59; refine (r6_Bits _).mono ?_; rintro e w' ⟨rfl, rfl⟩))
  go_loop [8] (fun v8 => ∃ i : Nat, i ≤ s.size ∧ v8 = .int .i64 i ∧ ∀ m, m < i → 0 ≤ hexNum (Utf.byteAt s m)) (fun v8 => s.size - (intOf v8).toNat)
  case atStart => exact ⟨0, by omega, rfl, fun m h => by omega⟩
  case round =>
    obtain ⟨i, hi, rfl, hr⟩ := hrel
    have HR := Lib.hid hr
    clear hr
    by_cases hlt : i < s.size
    · have hbt := Utf.byteAt_eq hlt
      obtain ⟨c, hc⟩ : ∃ c, c = hexNum (Utf.byteAt s i) := ⟨_, rfl⟩
      have HN : Hid (∀ w, Calls Tryz.prog 81 #[.int .i64 1, .int .u8 s[i].toNat] w fun e w' => e = .returned (.int .i64 c) ∧ w = w') := Lib.hid fun w => by rw [hc, hbt]; exact r6_number _ w
      have HCC := Lib.hid hc
      clear hc hbt
      by_cases hneg : c < 0
      · have hno : hexOK s = false := by
          unfold hexOK
          rw [Bool.and_eq_false_iff]
          right
          rw [List.all_eq_false]
          exact ⟨i, List.mem_range.2 hlt, by rw [← HCC.out]; simp; omega⟩
        have HNO := Lib.hid hno
        clear hno
        go_wp2_with (first | (go_at_call 81; refine (HN.out _).mono ?_; rintro e w' ⟨rfl, rfl⟩))
        refine bodyPost_ret (results_tmp3 rfl _ _ _) rfl ⟨.inr ⟨HNO.out, _, _, _, by decide, rfl⟩, Chg.refl _ _⟩
      · have hge : 0 ≤ c := by omega
        clear hneg
        go_wp2_with (first | (go_at_call 81; refine (HN.out _).mono ?_; rintro e w' ⟨rfl, rfl⟩))
        go_round
        case rel => exact ⟨i + 1, by omega, by go_num, fun m h => by
          by_cases g : m = i
          · subst g; rw [← HCC.out]; exact hge
          · exact HR.out m (by omega)⟩
        case measure => simp [intOf]; omega
    · obtain rfl : i = s.size := by omega
      by_cases hodd : s.size % 2 = 0
      · have hok : hexOK s = true := by
          unfold hexOK
          rw [Bool.and_eq_true, decide_eq_true_eq, List.all_eq_true]
          exact ⟨hodd, fun m hm => by simpa using HR.out m (List.mem_range.1 hm)⟩
        obtain ⟨n, hn⟩ : ∃ n, n = s.size / 2 := ⟨_, rfl⟩
        have hsz : s.size = 2 * n := by omega
        have HRM' : Hid (∀ w, Calls Tryz.prog 82 #[.int .i64 1, .int .i64 s.size] w fun e w' => e = .returned (.int .i64 n) ∧ w = w') := Lib.hid fun w => by have := HRM.out w; rwa [if_pos hodd, ← hn] at this
        have HOK := Lib.hid hok
        have HN := Lib.hid hn
        have HSZ := Lib.hid hsz
        have hnb : n ≤ 1073741824 := by omega
        obtain ⟨ti, hti, htz, hts, htb⟩ := info_parts info_byte
        clear hok hodd hn hsz
        go_upto_region 10 with (first
          | (go_at_call 82; refine (HRM'.out _).mono ?_; rintro e w' ⟨rfl, rfl⟩))
        go_upto_region 11 with (first
          | (at_make; go_loud (refine wpList_make_bytes rfl _ _ _ rfl 5 1 Tryz.underlying90 info_byte _ _ n (by rfl) (by rfl) (by omega) (by unfold maxLen; omega) ?_; intro w2 hB2 hG2)))
        obtain ⟨g, hg⟩ : ∃ g, g = w.heap.size := ⟨_, rfl⟩
        have HBs : Hid (Blk w2 g (cellsO s n 0) 5) := by rw [cellsO_zero, hg]; exact Lib.hid hB2
        have HG2 := Lib.hid hG2
        have HGE := Lib.hid hg
        rw [← hg]
        clear hB2 hG2 hg
        go_wp2_with fail
        go_loopw [11] (fun v11 wr => ∃ i : Nat, i ≤ s.size ∧ v11 = .int .i64 i ∧ Blk wr g (cellsO s n i) 5 ∧ Chg w wr []) (fun v11 _ => s.size - (intOf v11).toNat)
        case atStart => exact ⟨0, by omega, rfl, HBs.out, HG2.out⟩
        case round =>
          obtain ⟨wa, rfl⟩ : ∃ x, x = wr := ⟨_, rfl⟩
          obtain ⟨i, hi, rfl, hB, hgw⟩ := hrel
          have HBi := Lib.hid hB
          have HGi := Lib.hid hgw
          clear hB hgw
          by_cases hlt : i < s.size
          · have hbt := Utf.byteAt_eq hlt
            have hnn : 0 ≤ hexNum (Utf.byteAt s i) := by
              have h1 := HOK.out
              unfold hexOK at h1
              simp only [Bool.and_eq_true, decide_eq_true_eq, List.all_eq_true, List.mem_range] at h1
              exact h1.2 i hlt
            obtain ⟨x, hx0⟩ : ∃ x, x = hx s i := ⟨_, rfl⟩
            have hx16 : x < 16 := by rw [hx0]; exact hx_lt s i
            have hxn : hexNum (Utf.byteAt s i) = (x : Int) := by rw [hx0]; unfold hx; omega
            have HNu : Hid (∀ w, Calls Tryz.prog 81 #[.int .i64 1, .int .u8 s[i].toNat] w fun e w' => e = .returned (.int .i64 x) ∧ w = w') := Lib.hid fun w => by rw [← hxn, hbt]; exact r6_number _ w
            have HX0 := Lib.hid hx0
            have hin : i < 2 * n := by have := HSZ.out; omega
            have HST := Lib.hid (cellsO_start (s := s) hin)
            have HEN := Lib.hid (cellsO_end HOK.out HSZ.out hin)
            have HLN : Hid ((cellsO s n i).length = n) := Lib.hid (cellsO_len (by omega))
            have hq : i / 2 < n := by omega
            clear hbt hnn hxn hx0
            go_wp2_with (first | (go_at_call 81; refine (HNu.out _).mono ?_; rintro e w' ⟨rfl, rfl⟩))
            go_loopw [13] (fun v13 wr => ∃ j : Nat, j ≤ 4 ∧ v13 = .int .i64 j ∧ Blk wr g ((cellsO s n i).set (i / 2) (.int .u8 (vI s i j))) 5 ∧ Chg w wr []) (fun v13 _ => 4 - (intOf v13).toNat)
            case atStart => exact ⟨0, by omega, rfl, by rw [HST.out]; exact HBi.out, HGi.out⟩
            case round =>
              obtain ⟨wb, rfl⟩ : ∃ x, x = wr := ⟨_, rfl⟩
              obtain ⟨j, hj, rfl, hBj, hgj⟩ := hrel
              have HBj := Lib.hid hBj
              have HGj := Lib.hid hgj
              by_cases hj4 : j < 4
              · have hc : wb.cell? ⟨g, i / 2, none⟩ = some (.int .u8 (vI s i j)) := by
                  rw [hBj.cell, List.getElem?_set_self (by rw [HLN.out]; exact hq)]
                have hfz : ∀ k, wb.frozen? ⟨g, k, none⟩ = false := fun k => hBj.frozen k
                have hlg := hBj.lt
                have hA := Nat.div_le_self x (2 ^ (3 - j))
                have hand := and_one (x / 2 ^ (3 - j)) (by omega)
                have hv256 := vI_lt s i (j + 1)
                have hxi := HX0.out
                clear hBj hgj
                by_cases hbit : x / 2 ^ (3 - j) % 2 = 0
                · have hst := vI_step0 (s := s) (i := i) hj4 (by rw [← hxi]; exact hbit)
                  rw [hbit] at hand
                  have HSTv := Lib.hid hst
                  clear hst hxi hbit hA hv256
                  have hj' : j = 0 ∨ j = 1 ∨ j = 2 ∨ j = 3 := by omega
                  rcases hj' with rfl | rfl | rfl | rfl
                  · have hand' : bits BinOp.and IntKind.i64 ((x : Int) / 8) 1 = 0 := (by have h1 := hand; simp only [Nat.reduceSub, Nat.reducePow] at h1; rw [show ((x / 8 : Nat) : Int) = (x : Int) / 8 from by omega] at h1; exact h1)
                    clear hand
                    go_wp2_with fail
                    go_roundw
                    case rel => exact ⟨1, by omega, by go_num, by rw [HSTv.out]; exact HBj.out, HGj.out⟩
                    case measure => simp [intOf]
                  · have hand' : bits BinOp.and IntKind.i64 ((x : Int) / 4) 1 = 0 := (by have h1 := hand; simp only [Nat.reduceSub, Nat.reducePow] at h1; rw [show ((x / 4 : Nat) : Int) = (x : Int) / 4 from by omega] at h1; exact h1)
                    clear hand
                    go_wp2_with fail
                    go_roundw
                    case rel => exact ⟨2, by omega, by go_num, by rw [HSTv.out]; exact HBj.out, HGj.out⟩
                    case measure => simp [intOf]
                  · have hand' : bits BinOp.and IntKind.i64 ((x : Int) / 2) 1 = 0 := (by have h1 := hand; simp only [Nat.reduceSub, Nat.reducePow] at h1; rw [show ((x / 2 : Nat) : Int) = (x : Int) / 2 from by omega] at h1; exact h1)
                    clear hand
                    go_wp2_with fail
                    go_roundw
                    case rel => exact ⟨3, by omega, by go_num, by rw [HSTv.out]; exact HBj.out, HGj.out⟩
                    case measure => simp [intOf]
                  · have hand' : bits BinOp.and IntKind.i64 (x : Int) 1 = 0 := (by have h1 := hand; simp only [Nat.reduceSub, Nat.reducePow, Nat.div_one] at h1; exact h1)
                    clear hand
                    go_wp2_with fail
                    go_roundw
                    case rel => exact ⟨4, by omega, by go_num, by rw [HSTv.out]; exact HBj.out, HGj.out⟩
                    case measure => simp [intOf]
                · have hbit1 : x / 2 ^ (3 - j) % 2 = 1 := by omega
                  have hst := vI_step1 (s := s) (i := i) hj4 (by rw [← hxi]; exact hbit1)
                  rw [hbit1] at hand
                  have HSTv := Lib.hid hst
                  obtain ⟨v, hv⟩ : ∃ v, v = vI s i j := ⟨_, rfl⟩
                  obtain ⟨q, hqq⟩ : ∃ q, q = i / 2 := ⟨_, rfl⟩
                  have hv2 : v + 2 ^ (7 - ((i % 2) * 4 + j)) < 256 := by rw [hv, ← hst]; exact hv256
                  rw [← hv] at hc
                  rw [← hqq] at hc hq HBj HST HEN
                  have HVQ : Hid (v = vI s i j ∧ q = i / 2) := Lib.hid ⟨hv, hqq⟩
                  have hqn : (q : Int) < (n : Int) := by omega
                  have hp : i % 2 = 0 ∨ i % 2 = 1 := by omega
                  have hj' : j = 0 ∨ j = 1 ∨ j = 2 ∨ j = 3 := by omega
                  rcases hp with hp | hp
                  · rcases hj' with rfl | rfl | rfl | rfl
                    · have hand' : bits BinOp.and IntKind.i64 ((x : Int) / 8) 1 = 1 := (by have h1 := hand; simp only [Nat.reduceSub, Nat.reducePow] at h1; rw [show ((x / 8 : Nat) : Int) = (x : Int) / 8 from by omega] at h1; exact h1)
                      have hdv : ((i : Int) * 4) / 8 = (q : Int) := by omega
                      have hrm : ((i : Int) * 4) % 8 = 0 := by omega
                      have hrt : ((i : Int) * 4).tmod 8 = 0 := by rw [Int.tmod_eq_emod_of_nonneg (by omega)]; exact hrm
                      have hvb : v + 128 < 256 := by rw [hp] at hv2; simpa using hv2
                      have hwr : IntKind.u8.wrap ((v : Int) + 128) = (v : Int) + 128 := IntWalk.u8_in _ (by omega)
                      have hst' : vI s i 1 = v + 128 := by rw [HSTv.out, HVQ.out.1, hp]
                      have HST' := Lib.hid hst'
                      clear hand hst hst' hv hqq hv2 hp hxi hbit hbit1 hA hv256
                      go_wp2_with fail
                      go_region
                      go_wp2_with fail
                      go_roundw
                      case rel =>
                        refine ⟨1, by omega, by go_num, ?_, by refine Chg.drew (Chg.setCell HGj.out _ _ ?_); have := HGE.out; simp; omega⟩
                        have hb := HBj.out.set q (.int .u8 ((v : Int) + 128))
                        rw [List.set_set] at hb
                        exact Blk.eq (show Blk _ _ _ _ from hb) (by rw [HST'.out, HVQ.out.2]; rfl)
                      case measure => simp [intOf]
                    · have hand' : bits BinOp.and IntKind.i64 ((x : Int) / 4) 1 = 1 := (by have h1 := hand; simp only [Nat.reduceSub, Nat.reducePow] at h1; rw [show ((x / 4 : Nat) : Int) = (x : Int) / 4 from by omega] at h1; exact h1)
                      have hdv : ((i : Int) * 4 + 1) / 8 = (q : Int) := by omega
                      have hrm : ((i : Int) * 4 + 1) % 8 = 1 := by omega
                      have hrt : ((i : Int) * 4 + 1).tmod 8 = 1 := by rw [Int.tmod_eq_emod_of_nonneg (by omega)]; exact hrm
                      have hvb : v + 64 < 256 := by rw [hp] at hv2; simpa using hv2
                      have hwr : IntKind.u8.wrap ((v : Int) + 64) = (v : Int) + 64 := IntWalk.u8_in _ (by omega)
                      have hst' : vI s i 2 = v + 64 := by rw [HSTv.out, HVQ.out.1, hp]
                      have HST' := Lib.hid hst'
                      clear hand hst hst' hv hqq hv2 hp hxi hbit hbit1 hA hv256
                      go_wp2_with fail
                      go_region
                      go_wp2_with fail
                      go_roundw
                      case rel =>
                        refine ⟨2, by omega, by go_num, ?_, by refine Chg.drew (Chg.setCell HGj.out _ _ ?_); have := HGE.out; simp; omega⟩
                        have hb := HBj.out.set q (.int .u8 ((v : Int) + 64))
                        rw [List.set_set] at hb
                        exact Blk.eq (show Blk _ _ _ _ from hb) (by rw [HST'.out, HVQ.out.2]; rfl)
                      case measure => simp [intOf]
                    · have hand' : bits BinOp.and IntKind.i64 ((x : Int) / 2) 1 = 1 := (by have h1 := hand; simp only [Nat.reduceSub, Nat.reducePow] at h1; rw [show ((x / 2 : Nat) : Int) = (x : Int) / 2 from by omega] at h1; exact h1)
                      have hdv : ((i : Int) * 4 + 2) / 8 = (q : Int) := by omega
                      have hrm : ((i : Int) * 4 + 2) % 8 = 2 := by omega
                      have hrt : ((i : Int) * 4 + 2).tmod 8 = 2 := by rw [Int.tmod_eq_emod_of_nonneg (by omega)]; exact hrm
                      have hvb : v + 32 < 256 := by rw [hp] at hv2; simpa using hv2
                      have hwr : IntKind.u8.wrap ((v : Int) + 32) = (v : Int) + 32 := IntWalk.u8_in _ (by omega)
                      have hst' : vI s i 3 = v + 32 := by rw [HSTv.out, HVQ.out.1, hp]
                      have HST' := Lib.hid hst'
                      clear hand hst hst' hv hqq hv2 hp hxi hbit hbit1 hA hv256
                      go_wp2_with fail
                      go_region
                      go_wp2_with fail
                      go_roundw
                      case rel =>
                        refine ⟨3, by omega, by go_num, ?_, by refine Chg.drew (Chg.setCell HGj.out _ _ ?_); have := HGE.out; simp; omega⟩
                        have hb := HBj.out.set q (.int .u8 ((v : Int) + 32))
                        rw [List.set_set] at hb
                        exact Blk.eq (show Blk _ _ _ _ from hb) (by rw [HST'.out, HVQ.out.2]; rfl)
                      case measure => simp [intOf]
                    · have hand' : bits BinOp.and IntKind.i64 (x : Int) 1 = 1 := (by have h1 := hand; simp only [Nat.reduceSub, Nat.reducePow, Nat.div_one] at h1; exact h1)
                      have hdv : ((i : Int) * 4 + 3) / 8 = (q : Int) := by omega
                      have hrm : ((i : Int) * 4 + 3) % 8 = 3 := by omega
                      have hrt : ((i : Int) * 4 + 3).tmod 8 = 3 := by rw [Int.tmod_eq_emod_of_nonneg (by omega)]; exact hrm
                      have hvb : v + 16 < 256 := by rw [hp] at hv2; simpa using hv2
                      have hwr : IntKind.u8.wrap ((v : Int) + 16) = (v : Int) + 16 := IntWalk.u8_in _ (by omega)
                      have hst' : vI s i 4 = v + 16 := by rw [HSTv.out, HVQ.out.1, hp]
                      have HST' := Lib.hid hst'
                      clear hand hst hst' hv hqq hv2 hp hxi hbit hbit1 hA hv256
                      go_wp2_with fail
                      go_region
                      go_wp2_with fail
                      go_roundw
                      case rel =>
                        refine ⟨4, by omega, by go_num, ?_, by refine Chg.drew (Chg.setCell HGj.out _ _ ?_); have := HGE.out; simp; omega⟩
                        have hb := HBj.out.set q (.int .u8 ((v : Int) + 16))
                        rw [List.set_set] at hb
                        exact Blk.eq (show Blk _ _ _ _ from hb) (by rw [HST'.out, HVQ.out.2]; rfl)
                      case measure => simp [intOf]
                  · rcases hj' with rfl | rfl | rfl | rfl
                    · have hand' : bits BinOp.and IntKind.i64 ((x : Int) / 8) 1 = 1 := (by have h1 := hand; simp only [Nat.reduceSub, Nat.reducePow] at h1; rw [show ((x / 8 : Nat) : Int) = (x : Int) / 8 from by omega] at h1; exact h1)
                      have hdv : ((i : Int) * 4) / 8 = (q : Int) := by omega
                      have hrm : ((i : Int) * 4) % 8 = 4 := by omega
                      have hrt : ((i : Int) * 4).tmod 8 = 4 := by rw [Int.tmod_eq_emod_of_nonneg (by omega)]; exact hrm
                      have hvb : v + 8 < 256 := by rw [hp] at hv2; simpa using hv2
                      have hwr : IntKind.u8.wrap ((v : Int) + 8) = (v : Int) + 8 := IntWalk.u8_in _ (by omega)
                      have hst' : vI s i 1 = v + 8 := by rw [HSTv.out, HVQ.out.1, hp]
                      have HST' := Lib.hid hst'
                      clear hand hst hst' hv hqq hv2 hp hxi hbit hbit1 hA hv256
                      go_wp2_with fail
                      go_region
                      go_wp2_with fail
                      go_roundw
                      case rel =>
                        refine ⟨1, by omega, by go_num, ?_, by refine Chg.drew (Chg.setCell HGj.out _ _ ?_); have := HGE.out; simp; omega⟩
                        have hb := HBj.out.set q (.int .u8 ((v : Int) + 8))
                        rw [List.set_set] at hb
                        exact Blk.eq (show Blk _ _ _ _ from hb) (by rw [HST'.out, HVQ.out.2]; rfl)
                      case measure => simp [intOf]
                    · have hand' : bits BinOp.and IntKind.i64 ((x : Int) / 4) 1 = 1 := (by have h1 := hand; simp only [Nat.reduceSub, Nat.reducePow] at h1; rw [show ((x / 4 : Nat) : Int) = (x : Int) / 4 from by omega] at h1; exact h1)
                      have hdv : ((i : Int) * 4 + 1) / 8 = (q : Int) := by omega
                      have hrm : ((i : Int) * 4 + 1) % 8 = 5 := by omega
                      have hrt : ((i : Int) * 4 + 1).tmod 8 = 5 := by rw [Int.tmod_eq_emod_of_nonneg (by omega)]; exact hrm
                      have hvb : v + 4 < 256 := by rw [hp] at hv2; simpa using hv2
                      have hwr : IntKind.u8.wrap ((v : Int) + 4) = (v : Int) + 4 := IntWalk.u8_in _ (by omega)
                      have hst' : vI s i 2 = v + 4 := by rw [HSTv.out, HVQ.out.1, hp]
                      have HST' := Lib.hid hst'
                      clear hand hst hst' hv hqq hv2 hp hxi hbit hbit1 hA hv256
                      go_wp2_with fail
                      go_region
                      go_wp2_with fail
                      go_roundw
                      case rel =>
                        refine ⟨2, by omega, by go_num, ?_, by refine Chg.drew (Chg.setCell HGj.out _ _ ?_); have := HGE.out; simp; omega⟩
                        have hb := HBj.out.set q (.int .u8 ((v : Int) + 4))
                        rw [List.set_set] at hb
                        exact Blk.eq (show Blk _ _ _ _ from hb) (by rw [HST'.out, HVQ.out.2]; rfl)
                      case measure => simp [intOf]
                    · have hand' : bits BinOp.and IntKind.i64 ((x : Int) / 2) 1 = 1 := (by have h1 := hand; simp only [Nat.reduceSub, Nat.reducePow] at h1; rw [show ((x / 2 : Nat) : Int) = (x : Int) / 2 from by omega] at h1; exact h1)
                      have hdv : ((i : Int) * 4 + 2) / 8 = (q : Int) := by omega
                      have hrm : ((i : Int) * 4 + 2) % 8 = 6 := by omega
                      have hrt : ((i : Int) * 4 + 2).tmod 8 = 6 := by rw [Int.tmod_eq_emod_of_nonneg (by omega)]; exact hrm
                      have hvb : v + 2 < 256 := by rw [hp] at hv2; simpa using hv2
                      have hwr : IntKind.u8.wrap ((v : Int) + 2) = (v : Int) + 2 := IntWalk.u8_in _ (by omega)
                      have hst' : vI s i 3 = v + 2 := by rw [HSTv.out, HVQ.out.1, hp]
                      have HST' := Lib.hid hst'
                      clear hand hst hst' hv hqq hv2 hp hxi hbit hbit1 hA hv256
                      go_wp2_with fail
                      go_region
                      go_wp2_with fail
                      go_roundw
                      case rel =>
                        refine ⟨3, by omega, by go_num, ?_, by refine Chg.drew (Chg.setCell HGj.out _ _ ?_); have := HGE.out; simp; omega⟩
                        have hb := HBj.out.set q (.int .u8 ((v : Int) + 2))
                        rw [List.set_set] at hb
                        exact Blk.eq (show Blk _ _ _ _ from hb) (by rw [HST'.out, HVQ.out.2]; rfl)
                      case measure => simp [intOf]
                    · have hand' : bits BinOp.and IntKind.i64 (x : Int) 1 = 1 := (by have h1 := hand; simp only [Nat.reduceSub, Nat.reducePow, Nat.div_one] at h1; exact h1)
                      have hdv : ((i : Int) * 4 + 3) / 8 = (q : Int) := by omega
                      have hrm : ((i : Int) * 4 + 3) % 8 = 7 := by omega
                      have hrt : ((i : Int) * 4 + 3).tmod 8 = 7 := by rw [Int.tmod_eq_emod_of_nonneg (by omega)]; exact hrm
                      have hvb : v + 1 < 256 := by rw [hp] at hv2; simpa using hv2
                      have hwr : IntKind.u8.wrap ((v : Int) + 1) = (v : Int) + 1 := IntWalk.u8_in _ (by omega)
                      have hst' : vI s i 4 = v + 1 := by rw [HSTv.out, HVQ.out.1, hp]
                      have HST' := Lib.hid hst'
                      clear hand hst hst' hv hqq hv2 hp hxi hbit hbit1 hA hv256
                      go_wp2_with fail
                      go_region
                      go_wp2_with fail
                      go_roundw
                      case rel =>
                        refine ⟨4, by omega, by go_num, ?_, by refine Chg.drew (Chg.setCell HGj.out _ _ ?_); have := HGE.out; simp; omega⟩
                        have hb := HBj.out.set q (.int .u8 ((v : Int) + 1))
                        rw [List.set_set] at hb
                        exact Blk.eq (show Blk _ _ _ _ from hb) (by rw [HST'.out, HVQ.out.2]; rfl)
                      case measure => simp [intOf]
              · obtain rfl : j = 4 := by omega
                go_wp2_with fail
                go_roundw
                case rel => exact ⟨i + 1, by omega, by go_num, by rw [← HEN.out]; exact HBj.out, HGj.out⟩
                case measure => simp [intOf]; omega
          · obtain rfl : i = s.size := by omega
            have hfin : cellsO s n s.size = unhexV s n := by
              have := HSZ.out
              unfold cellsO
              rw [if_neg (by omega), show s.size / 2 = n from by omega, show n - (s.size + 1) / 2 = 0 from by omega]; simp
            have HFI := Lib.hid hfin
            clear hfin
            go_wp2_with fail
            refine bodyPost_ret (results_tmp3 rfl _ _ _) rfl ⟨.inl ⟨HOK.out, g, by rw [← HN.out]; rfl, ?_⟩, HGi.out⟩
            have h1 := HBi.out
            rw [HFI.out] at h1
            rw [← HN.out]
            exact h1
      · have hno : hexOK s = false := by unfold hexOK; rw [Bool.and_eq_false_iff]; left; simpa using hodd
        have HNO := Lib.hid hno
        have HRM' : Hid (∀ w, Calls Tryz.prog 82 #[.int .i64 1, .int .i64 s.size] w fun e w' => e = .returned (.int .i64 (-1)) ∧ w = w') := Lib.hid fun w => by have := HRM.out w; rwa [if_neg hodd] at this
        clear hno hodd
        go_wp2_with (first
          | (go_at_call 82; refine (HRM'.out _).mono ?_; rintro e w' ⟨rfl, rfl⟩))
        refine bodyPost_ret (results_tmp3 rfl _ _ _) rfl ⟨.inr ⟨HNO.out, _, _, _, by decide, rfl⟩, Chg.refl _ _⟩
end Go.Proofs.YtfdhgakalojahaaGreatDoor

/- WALKS: the program's layer 6: a digest as letters. WALKS: the reference's layer 6 at the alphabet of sixteen letters: bytes written as letters. WALKS: the program's layer 6: letters of four bits read. -/
import Derived.LaidEql
import Derived.Test.YtfdhgakalojahaaGreatDoorM09
import Derived.Test.YtfdhgakalojahaaGreatDoorM03
import Derived.Test.YtfdhgakalojahaaGreatDoorM07
set_option linter.unusedSimpArgs false
set_option linter.unusedVariables false
set_option linter.unnecessarySimpa false
set_option linter.unusedSectionVars false
namespace Go.Proofs.YtfdhgakalojahaaGreatDoor
open Go Go.RowKit

set_option maxRecDepth 100000 in
theorem base_End_hex (b : Nat) (w : World) (hB : Blk w b (WR 0 0) 166) :
    Calls Tryz.prog 87 #[.pointer (some ⟨b, 0, none⟩)] w fun e w' => e = .returned (.string ⟨#[]⟩) ∧ Chg w w' [b] ∧ Blk w' b (WR 0 0) 166 := by
  have c0 : w.cell? ⟨b, 0, none⟩ = some (.int .u8 1) := hB.cell 0
  have c1 : w.cell? ⟨b, 1, none⟩ = some (.int .u32 0) := hB.cell 1
  have c2 : w.cell? ⟨b, 2, none⟩ = some (.int .i64 0) := hB.cell 2
  have df : ∀ j, w.frozen? ⟨b, j, none⟩ = false := fun j => hB.frozen j
  have HB := Lib.hid hB
  have lb := hB.lt
  clear hB
  go_enter Tryz.func87, Tryz.ntmps87
  go_wp2_with (first | (go_at_call 86; refine (base_bits_hex _).mono ?_; rintro e w' ⟨rfl, rfl⟩))
  go_ret
  refine ⟨rfl, by (repeat (first | exact Chg.refl _ _ | with_reducible refine Chg.drewN ?_ _ | with_reducible refine Chg.drew ?_ | with_reducible refine Chg.alloc ?_ _ | with_reducible refine Chg.setCell ?_ _ _ (by simp) | with_reducible refine Chg.setCell ?_ _ _ (by simp; omega))), by (apply Blk.eq; (· (repeat (first | exact HB.out | with_reducible apply Blk.drewN | with_reducible apply Blk.drew | with_reducible apply Blk.alloc | with_reducible apply Blk.set | (with_reducible apply Blk.set_other; rotate_left; (· first | (simp; done) | (simp; omega)))))); rfl)⟩

/-- the letters of bytes, as numbers -/
def hexI (s : ByteArray) (k : Nat) : List Int := (List.range k).flatMap fun i => [(hexD (Utf.byteAt s i / 16) : Int), (hexD (Utf.byteAt s i % 16) : Int)]

theorem hexI_V (s : ByteArray) (k : Nat) : (hexI s k).map (Value.int .u8) = hexV s k := by
  unfold hexI hexV
  rw [List.map_flatMap]
  rfl

/-- bytes as letters -/
def hexS (s : ByteArray) : ByteArray := strOfNums (hexI s s.size)

theorem run_append_empty {P : Program} (w : World) (t u ty e : TypeId) (i : TypeInfo) (ht : P.underlying t = some (.slice e)) (hu : P.underlying u = some .string) (hi : P.info? e = some i) (a : Option Addr) (n cap : Nat) (hc : n ≤ cap) :
    (Builtin.append_ #[t, u] ty #[.slice a n cap, .string ⟨#[]⟩]).run P w = .ok (.slice a n cap) w := by
  have h0 : (⟨#[]⟩ : ByteArray).size = 0 := rfl
  cases a with
  | none => simp [Builtin.append_, run_underlying ht, run_underlying hu, sizeOf, typeInfo, hi, Builtin.lenOf, Builtin.firstCells, h0, hc]
  | some a =>
    simp [Builtin.append_, run_underlying ht, run_underlying hu, sizeOf, typeInfo, hi, Builtin.lenOf, Builtin.firstCells, h0, hc]
    rfl

theorem wpList_append_empty {P : Program} {ops : Array Oper} {rest : List Oper} {o : Oper} {a : Act} {Q : Exit → Act → World → Prop} {w : World} (hgd : o.guard = none) (s x : Operand) (t u : TypeId)
    (ho : o.op = .call { callee := .builtin .append, args := #[s, x], argTypes := #[t, u] })
    (e : TypeId) (i : TypeInfo) (ht : P.underlying t = some (.slice e)) (hu : P.underlying u = some .string) (hi : P.info? e = some i) (b : Option Addr) (n cap : Nat) (hc : n ≤ cap) (hs : a.eval s = .slice b n cap) (hx : a.eval x = .string ⟨#[]⟩)
    (h : wpList P ops Q rest (a.put o.dst (.slice b n cap)) w) : wpList P ops Q (o :: rest) a w := by
  have hr := run_append_empty (P := P) w t u o.type e i ht hu hi b n cap hc
  refine wpList_plain hgd fun K hK => ?_
  unfold Oper.wp execOp
  simp only [ho, resolve, invoke, builtin, Sem.run_bind, Sem.run_pure, Result.andThen_ok, List.map_toArray, List.map_cons, List.map_nil, hs, hx, hr]
  exact hK _ _ h

theorem wpList_make_lst {P : Program} {ops : Array Oper} {rest : List Oper} {o : Oper} {a : Act} {Q : Exit → Act → World → Prop} {w : World} (hg : o.guard = none) (l c : Operand) (t : TypeId) (hop : o.op = Op.makeSlice t l c)
    (e : TypeId) (z : Value) (bytes : Nat) (ht : P.underlying t = some (.slice e)) (hinfo : (P.info? e).map (fun i => (i.zero, i.size, i.bytes)) = some (some z, 1, bytes)) (kl kc : IntKind) (C : Int) (n : Nat)
    (hl : a.eval l = .int kl 0) (hc : a.eval c = .int kc C) (hC : C = (n : Int)) (b2 : bytes * n ≤ 281474976710656) (b3 : n ≤ maxLen) (B : Nat) (hB : w.heap.size = B)
    (hK : ∀ w', Lst w' (.slice (some ⟨B, 0, none⟩) 0 n) e [] → Chg w w' [] → wpList P ops Q rest (a.put o.dst (.slice (some ⟨B, 0, none⟩) 0 n)) w') :
    wpList P ops Q (o :: rest) a w := by
  obtain ⟨i, hi, hz, hsz, hby⟩ := info_parts hinfo
  subst hC; subst hby; subst hB
  obtain ⟨w', hr, h1, h2⟩ := run_make_own (P := P) w 0 t e i z 1 ht hi hz hsz kl kc n b2 b3 (Nat.zero_le _)
  refine wpList_plain hg fun K hK' => ?_
  unfold Oper.wp
  simp only [execOp, hop, hl, hc, hr, Sem.run_bind, Result.andThen_ok, Sem.run_pure]
  exact hK' _ _ (hK w' h1 ⟨h2.os, h2.tape, h2.output, h2.size, run_drawn _ _ _ _ hr, fun k hk _ => h2.block k hk (by simp)⟩)

theorem Lst.convert {P : Program} {w : World} {g n cap : Nat} {e : TypeId} {xs : List Int} (h : Lst w (.slice (some ⟨g, 0, none⟩) n cap) e (xs.map (Value.int .u8))) (src dst : TypeId) (hs : P.underlying src = some (.slice e)) (he : P.underlying e = some (.int .u8)) (hd : P.underlying dst = some .string) :
    (Go.convert src dst (.slice (some ⟨g, 0, none⟩) n cap)).run P w = .ok (.string (strOfNums xs)) w := by
  have hn := h.capLe.1
  rw [List.length_map] at hn
  subst hn
  refine run_convert_bytes_arg w src e hs he g 0 xs.length cap xs rfl (fun i hi => ?_) dst hd
  rw [Nat.zero_add]
  refine h.cell rfl i _ ?_
  simp [hi]

set_option maxRecDepth 100000 in
set_option maxHeartbeats 1000000 in
theorem base_write_hex (s : ByteArray) (w : World) (h0 : 0 < s.size) (hs : s.size ≤ 16777216) :
    Calls Tryz.prog 46 #[.int .u8 1, .string s] w fun e w' => e = .returned (.string (hexS s)) ∧ Chg w w' [] := by
  obtain ⟨ib, hib, _⟩ := info_parts info_byte
  have HW0 : Hid (Blk (w.alloc (.cells #[.int .u8 1, .int .u32 0, .int .i64 0] 166)) w.heap.size (WR 0 0) 166) := Blk.new w (WR 0 0) _
  have HIB := Lib.hid hib
  clear hib
  go_enter Tryz.func46, Tryz.ntmps46
  go_wp2_with (first
    | (go_at_call 86; refine (base_bits_hex _).mono ?_; rintro e w' ⟨rfl, rfl⟩)
    | (at_make; refine wpList_make_lst rfl _ _ _ rfl 5 (.int .u8 0) 1 Tryz.underlying90 info_byte _ _ _ (s.size * 8 / 4 + 1) rfl rfl (by omega) (by omega) (by unfold maxLen; omega) (w.heap.size + 1) (by simp) ?_; intro w1 hL1 hg1; have HL1 := Lib.hid hL1; have HW1 := Lib.hid (HW0.out.kept hg1 (by simp)); clear hL1)
    | (go_at_call 85; (with_reducible refine (base_put_hex w.heap.size _ [] s _ HW1.out HL1.out (by simp [Value.ownBlock]) (by omega) (by simp)).mono ?_); rintro e w2 ⟨sv, rfl, hL2, hW2, hg2, ho2⟩; rw [List.nil_append] at hL2; obtain ⟨a2, cap2, rfl, ha2⟩ := hL2.form; obtain ⟨g2, rfl⟩ := ha2 (fun he => by have := hexV_length s s.size; rw [he] at this; simp at this; omega); have hne2 : g2 ∉ [w.heap.size] := (by have := ho2 g2 rfl; have := hg1.size; simp [Value.ownBlock] at *; omega); rw [hexV_length] at hL2 ⊢; have HL2 := Lib.hid hL2; have HW2 := Lib.hid hW2; have HO2 := Lib.hid ho2; clear hL2 hW2 ho2)
    | (go_at_call 87; (with_reducible refine (base_End_hex w.heap.size _ HW2.out).mono ?_); rintro e w3 ⟨rfl, hg3, hW3⟩; have HL3 := Lib.hid (HL2.out.kept hg3 (by intro g hg; simp [Value.ownBlock] at hg; subst hg; exact hne2)); have kc : (Go.convert 90 9 (.slice (some ⟨g2, 0, none⟩) (2 * s.size) cap2)).run Tryz.prog w3 = .ok (.string (hexS s)) w3 := (by have := HL3.out; rw [← hexI_V] at this; exact this.convert _ _ Tryz.underlying90 Tryz.underlying5 Tryz.underlying9))
    | (at_builtin; refine wpList_append_empty rfl _ _ _ _ rfl 5 ib Tryz.underlying90 Tryz.underlying9 HIB.out (some ⟨g2, 0, none⟩) (2 * s.size) cap2 (by have := HL2.out.capLe; omega) rfl rfl ?_))
  go_ret
  exact ⟨rfl, (((((Chg.refl w []).alloc _).trans hg1).fresh hg2 (by simp [Value.ownBlock])).fresh hg3 (by simp))⟩

theorem strOfNums_size (l : List Int) : (strOfNums l).size = l.length := by
  unfold strOfNums; simp [ByteArray.size]

set_option maxRecDepth 100000 in
theorem base_Digest (l : List Int) (w : World) (hl : l.length = 32) :
    Calls Tryz.prog 19 #[.agg (l.map (Value.int .u8)).toArray] w fun e w' => e = .returned (.string (hexS (strOfNums l))) ∧ Chg w w' [] := by
  have hz := strOfNums_size l
  have kc : (Go.convert 90 9 (.slice (some ⟨w.heap.size, 0, none⟩) 32 32)).run Tryz.prog (w.alloc (.cells (l.map (Value.int .u8)).toArray 23)) = .ok (.string (strOfNums l)) (w.alloc (.cells (l.map (Value.int .u8)).toArray 23)) := by
    refine run_convert_bytes_arg _ 90 5 Tryz.underlying90 Tryz.underlying5 w.heap.size 0 32 32 l hl (fun i hi => ?_) _ Tryz.underlying9
    rw [World.cell?_alloc_mark]
    simp [hl, hi]
  have HZ := Lib.hid hz
  have HL := Lib.hid hl
  clear hz hl
  go_enter Tryz.func19, Tryz.ntmps19
  go_wp2_with (first
    | (go_at_call 46; (with_reducible refine (base_write_hex _ _ (by rw [HZ.out, HL.out]; decide) (by rw [HZ.out, HL.out]; decide)).mono ?_); rintro e w1 ⟨rfl, hg1⟩))
  go_ret
  exact ⟨rfl, ((Chg.refl w []).alloc _).trans hg1⟩
end Go.Proofs.YtfdhgakalojahaaGreatDoor

namespace Go.Proofs.YtfdhgakalojahaaGreatDoor
open Go Go.RowKit

theorem r6_Bits (w : World) : Calls Tryz.prog 59 #[.int .i64 1] w fun e w' => e = .returned (.int .i64 4) ∧ w = w' := by
  go_enter Tryz.func59, Tryz.ntmps59
  go_wp2
  go_ret
  exact ⟨rfl, rfl⟩

theorem r6_Size (n : Nat) (hn : n ≤ 2147483648) (w : World) : Calls Tryz.prog 60 #[.int .i64 1, .int .i64 n] w fun e w' => e = .returned (.int .i64 (2 * n : Nat)) ∧ w = w' := by
  go_enter Tryz.func60, Tryz.ntmps60
  go_wp2_with (first | (go_at_call 59; refine (r6_Bits _).mono ?_; rintro e w' ⟨rfl, rfl⟩))
  go_ret
  exact ⟨ret_int (by omega), rfl⟩

theorem r6_letter (n : Nat) (hn : n < 16) (w : World) : Calls Tryz.prog 62 #[.int .i64 1, .int .i64 n] w fun e w' => e = .returned (.int .u8 (hexD n)) ∧ w = w' := by
  have hd : hexD n = if n < 10 then 48 + n else 87 + n := rfl
  have HD := Lib.hid hd
  clear hd
  by_cases h : n < 10
  all_goals
    go_enter Tryz.func62, Tryz.ntmps62
    go_wp2
    go_ret
    refine ⟨ret_int ?_, rfl⟩
    rw [HD.out]
    first | rw [if_pos h] | rw [if_neg h]
    simp
    try omega

theorem and1_i64 (a : Nat) (ha : a < 256) : bits BinOp.and IntKind.i64 (a : Int) 1 = ((a % 2 : Nat) : Int) := by
  have := (bits_nat IntKind.i64 62 (by decide) (fun n h0 h1 => IntWalk.i64_in n (by omega)) a 1 (by omega) (by decide)).1
  rw [show ((1 : Nat) : Int) = 1 from rfl] at this
  rw [this]
  congr 1
  exact Nat.and_two_pow_sub_one_eq_mod a 1

theorem and1_128 (c : Nat) (hc : c < 256) : bits BinOp.and IntKind.i64 ((c : Int) / 128) 1 = ((c / 128 % 2 : Nat) : Int) := by
  rw [show (c : Int) / 128 = ((c / 128 : Nat) : Int) from by omega, and1_i64 (c / 128) (by omega)]
theorem and1_64 (c : Nat) (hc : c < 256) : bits BinOp.and IntKind.i64 ((c : Int) / 64) 1 = ((c / 64 % 2 : Nat) : Int) := by
  rw [show (c : Int) / 64 = ((c / 64 : Nat) : Int) from by omega, and1_i64 (c / 64) (by omega)]
theorem and1_32 (c : Nat) (hc : c < 256) : bits BinOp.and IntKind.i64 ((c : Int) / 32) 1 = ((c / 32 % 2 : Nat) : Int) := by
  rw [show (c : Int) / 32 = ((c / 32 : Nat) : Int) from by omega, and1_i64 (c / 32) (by omega)]
theorem and1_16 (c : Nat) (hc : c < 256) : bits BinOp.and IntKind.i64 ((c : Int) / 16) 1 = ((c / 16 % 2 : Nat) : Int) := by
  rw [show (c : Int) / 16 = ((c / 16 : Nat) : Int) from by omega, and1_i64 (c / 16) (by omega)]
theorem and1_8 (c : Nat) (hc : c < 256) : bits BinOp.and IntKind.i64 ((c : Int) / 8) 1 = ((c / 8 % 2 : Nat) : Int) := by
  rw [show (c : Int) / 8 = ((c / 8 : Nat) : Int) from by omega, and1_i64 (c / 8) (by omega)]
theorem and1_4 (c : Nat) (hc : c < 256) : bits BinOp.and IntKind.i64 ((c : Int) / 4) 1 = ((c / 4 % 2 : Nat) : Int) := by
  rw [show (c : Int) / 4 = ((c / 4 : Nat) : Int) from by omega, and1_i64 (c / 4) (by omega)]
theorem and1_2 (c : Nat) (hc : c < 256) : bits BinOp.and IntKind.i64 ((c : Int) / 2) 1 = ((c / 2 % 2 : Nat) : Int) := by
  rw [show (c : Int) / 2 = ((c / 2 : Nat) : Int) from by omega, and1_i64 (c / 2) (by omega)]
theorem and1_1 (c : Nat) (hc : c < 256) : bits BinOp.and IntKind.i64 ((c : Int) / 1) 1 = ((c / 1 % 2 : Nat) : Int) := by
  rw [show (c : Int) / 1 = ((c / 1 : Nat) : Int) from by omega, and1_i64 (c / 1) (by omega)]
theorem and1_i64' (c : Nat) (hc : c < 256) : bits BinOp.and IntKind.i64 (c : Int) 1 = ((c / 1 % 2 : Nat) : Int) := by
  rw [and1_i64 c hc, Nat.div_one]

/-- a bit of bytes -/
def bitB (s : ByteArray) (m : Nat) : Nat := Utf.byteAt s (m / 8) / 2 ^ (7 - m % 8) % 2

set_option maxRecDepth 100000 in
set_option maxHeartbeats 2000000 in
theorem r6_bit (s : ByteArray) (bb off cap m : Nat) (w : World) (hc : w.cell? ⟨bb, off + m / 8, none⟩ = some (.int .u8 (Utf.byteAt s (m / 8)))) (hm : m / 8 < s.size) (hs : s.size ≤ 2147483648) :
    Calls Tryz.prog 61 #[.slice (some ⟨bb, off, none⟩) s.size cap, .int .i64 m] w fun e w' => e = .returned (.int .i64 (bitB s m)) ∧ w = w' := by
  obtain ⟨q, hq⟩ : ∃ q, q = m / 8 := ⟨_, rfl⟩
  obtain ⟨r, hr⟩ : ∃ r, r = m % 8 := ⟨_, rfl⟩
  have hmq : m = 8 * q + r := by omega
  have hr8 : r < 8 := by omega
  obtain ⟨c, hcc⟩ : ∃ c, c = Utf.byteAt s (m / 8) := ⟨_, rfl⟩
  have hc256 : c < 256 := by rw [hcc]; exact Utf.byteAt_lt _ _
  have HB : Hid (bitB s m = c / 2 ^ (7 - r) % 2) := by unfold Hid bitB; rw [← hcc, ← hr]
  rw [← hcc] at hc
  rw [← hq] at hc hm
  clear hcc hq hr
  subst hmq
  have t1 : ((8 * q + r : Nat) : Int) / 8 = (q : Int) := by omega
  have t2 : ((8 * q + r : Nat) : Int) % 8 = (r : Int) := by omega
  have hd : decide ((s.size : Int) ≤ (q : Int)) = false := by simp; omega
  have hrr : r = 0 ∨ r = 1 ∨ r = 2 ∨ r = 3 ∨ r = 4 ∨ r = 5 ∨ r = 6 ∨ r = 7 := by omega
  have hm0 : (0 : Int) ≤ ((8 * q + r : Nat) : Int) := by omega
  obtain ⟨M, hM⟩ : ∃ M : Int, M = ((8 * q + r : Nat) : Int) := ⟨_, rfl⟩
  rw [← hM] at t1 t2 hm0 ⊢
  have hMb : M ≤ 17179869184 := by omega
  clear hM
  rcases hrr with rfl | rfl | rfl | rfl | rfl | rfl | rfl | rfl
  · have ha := and1_128 c hc256
    have ha' := and1_i64' c hc256
    have t2' : M % 8 = 0 := t2
    clear t2
    go_enter Tryz.func61, Tryz.ntmps61
    go_wp2
    go_ret
    exact ⟨ret_int (by rw [HB.out]; simp), rfl⟩
  · have ha := and1_64 c hc256
    have ha' := and1_i64' c hc256
    have t2' : M % 8 = 1 := t2
    clear t2
    go_enter Tryz.func61, Tryz.ntmps61
    go_wp2
    go_ret
    exact ⟨ret_int (by rw [HB.out]; simp), rfl⟩
  · have ha := and1_32 c hc256
    have ha' := and1_i64' c hc256
    have t2' : M % 8 = 2 := t2
    clear t2
    go_enter Tryz.func61, Tryz.ntmps61
    go_wp2
    go_ret
    exact ⟨ret_int (by rw [HB.out]; simp), rfl⟩
  · have ha := and1_16 c hc256
    have ha' := and1_i64' c hc256
    have t2' : M % 8 = 3 := t2
    clear t2
    go_enter Tryz.func61, Tryz.ntmps61
    go_wp2
    go_ret
    exact ⟨ret_int (by rw [HB.out]; simp), rfl⟩
  · have ha := and1_8 c hc256
    have ha' := and1_i64' c hc256
    have t2' : M % 8 = 4 := t2
    clear t2
    go_enter Tryz.func61, Tryz.ntmps61
    go_wp2
    go_ret
    exact ⟨ret_int (by rw [HB.out]; simp), rfl⟩
  · have ha := and1_4 c hc256
    have ha' := and1_i64' c hc256
    have t2' : M % 8 = 5 := t2
    clear t2
    go_enter Tryz.func61, Tryz.ntmps61
    go_wp2
    go_ret
    exact ⟨ret_int (by rw [HB.out]; simp), rfl⟩
  · have ha := and1_2 c hc256
    have ha' := and1_i64' c hc256
    have t2' : M % 8 = 6 := t2
    clear t2
    go_enter Tryz.func61, Tryz.ntmps61
    go_wp2
    go_ret
    exact ⟨ret_int (by rw [HB.out]; simp), rfl⟩
  · have ha := and1_1 c hc256
    have ha' := and1_i64' c hc256
    have t2' : M % 8 = 7 := t2
    clear t2
    go_enter Tryz.func61, Tryz.ntmps61
    go_wp2
    go_ret
    exact ⟨ret_int (by rw [HB.out]; simp), rfl⟩

/-- the number of a letter -/
def nib (s : ByteArray) (i : Nat) : Nat := if i % 2 = 0 then Utf.byteAt s (i / 2) / 16 else Utf.byteAt s (i / 2) % 16

theorem nib_lt (s : ByteArray) (i : Nat) : nib s i < 16 := by
  have := Utf.byteAt_lt s (i / 2)
  unfold nib; split <;> omega

theorem nib_step (s : ByteArray) (i j : Nat) (hj : j < 4) : 2 * (nib s i / 2 ^ (4 - j)) + bitB s (4 * i + j) = nib s i / 2 ^ (4 - (j + 1)) := by
  have hc := Utf.byteAt_lt s (i / 2)
  unfold nib bitB
  rw [show (4 * i + j) / 8 = i / 2 from by omega]
  have hm : (4 * i + j) % 8 = 4 * (i % 2) + j := by omega
  rw [hm]
  generalize Utf.byteAt s (i / 2) = c at *
  have h2 : i % 2 = 0 ∨ i % 2 = 1 := by omega
  have hjj : j = 0 ∨ j = 1 ∨ j = 2 ∨ j = 3 := by omega
  rcases h2 with h2 | h2 <;> rw [h2] <;> rcases hjj with rfl | rfl | rfl | rfl <;> simp <;> omega

theorem hexV_get (s : ByteArray) (n i : Nat) (hi : i < 2 * n) : (hexV s n)[i]? = some (.int .u8 (hexD (nib s i))) := by
  induction n with
  | zero => omega
  | succ n ih =>
    rw [hexV_succ]
    by_cases h : i < 2 * n
    · rw [List.getElem?_append_left (by rw [hexV_length]; exact h)]; exact ih h
    · rw [List.getElem?_append_right (by rw [hexV_length]; omega), hexV_length]
      have : i = 2 * n ∨ i = 2 * n + 1 := by omega
      rcases this with rfl | rfl
      · unfold nib; rw [if_pos (by omega), show 2 * n / 2 = n from by omega]; simp
      · unfold nib; rw [if_neg (by omega), show (2 * n + 1) / 2 = n from by omega, show 2 * n + 1 - 2 * n = 1 from by omega]; simp

theorem hexV_take_succ (s : ByteArray) (n i : Nat) (hi : i < 2 * n) : (hexV s n).take (i + 1) = (hexV s n).take i ++ [.int .u8 (hexD (nib s i))] := by
  rw [List.take_add_one, hexV_get s n i hi]; rfl

set_option maxRecDepth 100000 in
set_option maxHeartbeats 2000000 in
theorem r6_Write (s : ByteArray) (bb off cap : Nat) (w : World) (hc : ∀ i, i < s.size → w.cell? ⟨bb, off + i, none⟩ = some (.int .u8 (Utf.byteAt s i))) (h0 : 0 < s.size) (hs : s.size ≤ 16777216) :
    Calls Tryz.prog 37 #[.int .i64 1, .slice (some ⟨bb, off, none⟩) s.size cap] w fun e w' => e = .returned (.string (hexS s)) ∧ Chg w w' [] := by
  have HC := Lib.hid hc
  clear hc
  go_enter Tryz.func37, Tryz.ntmps37
  go_wp2_with (first | (go_at_call 59; refine (r6_Bits _).mono ?_; rintro e w' ⟨rfl, rfl⟩))
  go_loopw [6, 7] (fun v6 v7 wr => ∃ i : Nat, i ≤ 2 * s.size ∧ v7 = .int .i64 i ∧ Lst wr v6 5 ((hexV s s.size).take i) ∧ Chg w wr [] ∧ ∀ g, v6.ownBlock = some g → w.heap.size ≤ g)
    (fun _ v7 _ => 2 * s.size - (intOf v7).toNat)
  case atStart => exact ⟨0, by omega, rfl, by simpa using Lst.nil w 5, Chg.refl _ _, fun g hg => by cases hg⟩
  case round =>
    obtain ⟨wa, rfl⟩ : ∃ x, x = wr := ⟨_, rfl⟩
    obtain ⟨i, hi, rfl, hL, hg, ho⟩ := hrel
    have HL := Lib.hid hL
    have HG := Lib.hid hg
    have HO := Lib.hid ho
    clear hL hg ho
    by_cases hlt : i < 2 * s.size
    · have e1 : decide ((i : Int) < 2 * (s.size : Int)) = true := by simp; omega
      go_wp2_with (first | (go_at_call 60; refine (r6_Size s.size (by omega) _).mono ?_; rintro e w' ⟨rfl, rfl⟩))
      clear e1
      go_loop [8, 9] (fun v8 v9 => ∃ j : Nat, j ≤ 4 ∧ v9 = .int .i64 j ∧ v8 = .int .i64 (nib s i / 2 ^ (4 - j) : Nat)) (fun _ v9 => 4 - (intOf v9).toNat)
      case atStart => exact ⟨0, by omega, rfl, by have := nib_lt s i; rw [show nib s i / 2 ^ (4 - 0) = 0 from Nat.div_eq_of_lt this]; rfl⟩
      case round =>
        obtain ⟨j, hj, rfl, rfl⟩ := hrel
        by_cases hj4 : j < 4
        · have hst := nib_step s i j hj4
          have hnl := nib_lt s i
          obtain ⟨x, hx⟩ : ∃ x, x = nib s i / 2 ^ (4 - j) := ⟨_, rfl⟩
          have hx16 : x ≤ 16 := by rw [hx]; exact Nat.le_trans (Nat.div_le_self _ _) (by omega)
          have hb1 : bitB s (4 * i + j) ≤ 1 := by unfold bitB; omega
          rw [← hx] at hst ⊢
          have HST := Lib.hid hst
          clear hst hx
          have hcell := HG.out.keeps (HC.out ((4 * i + j) / 8) (by omega))
          have HCL := Lib.hid hcell
          clear hcell
          have HM : Hid (∀ w', wa = w' → Calls Tryz.prog 61 #[.slice (some ⟨bb, off, none⟩) s.size cap, .int .i64 ((i : Int) * 4 + j)] w' fun e w'' => e = .returned (.int .i64 (bitB s (4 * i + j))) ∧ w' = w'') := by
            rintro w' rfl
            have := r6_bit s bb off cap (4 * i + j) wa HCL.out (by omega) (by omega)
            rwa [show ((4 * i + j : Nat) : Int) = (i : Int) * 4 + j from by omega] at this
          go_wp2_with (first | (go_at_call 61; refine (HM.out _ rfl).mono ?_; rintro e w' ⟨rfl, rfl⟩))
          go_round
          case rel => exact ⟨j + 1, by omega, by go_num, by rw [← HST.out]; go_num⟩
          case measure => simp [intOf]; omega
        · have hj4' : j = 4 := by omega
          subst hj4'
          have hn4 : nib s i / 2 ^ (4 - 4) = nib s i := by simp
          rw [hn4]
          have hnl := nib_lt s i
          have HLN : Hid (((hexV s s.size).take i).length = i) := by unfold Hid; rw [List.length_take, hexV_length]; omega
          go_wp2_with (first
            | (go_at_call 62; refine (r6_letter _ hnl _).mono ?_; rintro e w' ⟨rfl, rfl⟩)
            | (at_builtin; refine wpList_append1 rfl _ _ _ rfl 5 (.int .u8 0) 1 Tryz.underlying90 info_byte rfl u6 ((hexV s s.size).take i) (by rfl) (by exact HL.out.kept (bs := []) (by (repeat (first | exact Chg.refl _ _ | with_reducible refine Chg.drewN ?_ _ | with_reducible refine Chg.drew ?_ | with_reducible refine Chg.alloc ?_ _ | with_reducible refine Chg.setCell ?_ _ _ (by simp) | with_reducible refine Chg.setCell ?_ _ _ (by simp; omega)))) (by simp)) wa.heap.size (.int .u8 (hexD (nib s i))) (by rfl) (by exact cell_new (by simp) _ _) rfl (by rw [HLN.out]; omega) (by rw [HLN.out]; omega) ?_; rw [HLN.out]; intro g cap' w3 hL3 hC3 hG3; have HL3 := Lib.hid hL3; have HC3 := Lib.hid hC3; have HG3 := Lib.hid hG3; clear hL3 hC3 hG3))
          go_roundw
          case rel =>
            have G1 := HG.out
            have hsz := HG.out.size
            refine ⟨i + 1, by omega, by go_num, ?_, Chg.own (sv := .slice none 0 0) (by (repeat (first | exact G1 | with_reducible refine Chg.drewN ?_ _ | with_reducible refine Chg.drew ?_ | with_reducible refine Chg.alloc ?_ _ | with_reducible refine Chg.setCell ?_ _ _ (by simp) | with_reducible refine Chg.setCell ?_ _ _ (by simp; omega)))) HC3.out (fun g hg => by cases hg) (fun g hg => .inr (HO.out g hg)), fun g' hg' => ?_⟩
            · rw [hexV_take_succ s s.size i hlt]; exact HL3.out
            · simp [Value.ownBlock] at hg'; subst hg'
              rcases HG3.out with h | h
              · exact HO.out _ h
              · simp at h; omega
          case measure => simp [intOf]; omega
    · have hie : i = 2 * s.size := by omega
      subst hie
      obtain ⟨a2, cap2, rfl, ha2⟩ := HL.out.form
      have hlen : ((hexV s s.size).take (2 * s.size)) = hexV s s.size := List.take_of_length_le (by rw [hexV_length]; omega)
      have HL2 := HL.out
      rw [hlen] at HL2 ha2 ⊢
      obtain ⟨g2, rfl⟩ := ha2 (fun he => by have := hexV_length s s.size; rw [he] at this; simp at this; omega)
      rw [hexV_length] at HL2 ⊢
      have kc : (Go.convert 90 9 (.slice (some ⟨g2, 0, none⟩) (2 * s.size) cap2)).run Tryz.prog wa = .ok (.string (hexS s)) wa := by
        have := HL2
        rw [← hexI_V] at this
        exact this.convert _ _ Tryz.underlying90 Tryz.underlying5 Tryz.underlying9
      clear HL HL2 hlen ha2
      go_wp2_with (first | (go_at_call 60; refine (r6_Size s.size (by omega) _).mono ?_; rintro e w' ⟨rfl, rfl⟩))
      go_ret
      exact ⟨rfl, HG.out⟩
end Go.Proofs.YtfdhgakalojahaaGreatDoor

namespace Go.Proofs.YtfdhgakalojahaaGreatDoor
open Go Go.RowKit

/-- the number of a letter; below 0: it is none -/
def hexNum (c : Nat) : Int := if 48 ≤ c ∧ c ≤ 57 then (c : Int) - 48 else if 97 ≤ c ∧ c ≤ 102 then (c : Int) - 87 else -1

theorem hexNum_of {i c : Nat} (hi : i < 16) (h : hexD i = c) : hexNum c = i := by
  unfold hexD at h
  unfold hexNum
  split at h
  · rw [if_pos (by omega)]; omega
  · rw [if_neg (by omega), if_pos (by omega)]; omega

theorem hexNum_none {c : Nat} (h : ∀ i, i < 16 → hexD i ≠ c) : hexNum c = -1 := by
  unfold hexNum
  split
  · rename_i hc
    exfalso
    refine h (c - 48) (by omega) ?_
    unfold hexD; rw [if_pos (by omega)]; omega
  · split
    · rename_i hc
      exfalso
      refine h (c - 87) (by omega) ?_
      unfold hexD; rw [if_neg (by omega)]; omega
    · rfl

theorem hexNum_lt (c : Nat) : hexNum c < 16 := by unfold hexNum; split; omega; split <;> omega

set_option maxRecDepth 100000 in
set_option maxHeartbeats 1000000 in
theorem base_number_hex (c : Nat) (hc : c < 256) (w : World) :
    Calls Tryz.prog 95 #[.int .u8 1, .int .u8 c] w fun e w' => e = .returned (.int .i64 (hexNum c)) ∧ Chg w w' [] := by
  obtain ⟨cap, w1, hcv, hcap, hg1, hz1, hcell⟩ := conv_bytes (P := Tryz.prog) w 9 90 5 hexA Tryz.underlying9 Tryz.underlying90 Tryz.underlying5
  have hsz : hexA.size = 16 := rfl
  rw [hsz] at hcv hcell
  have HCELL := Lib.hid hcell
  have HG1 := Lib.hid hg1
  clear hcell hg1 hsz
  go_enter Tryz.func95, Tryz.ntmps95
  go_wp2_with (first
    | (go_at_call 110; refine (base_letters_hex _).mono ?_; rintro e w2 ⟨rfl, rfl⟩)
    | (simp only [hcv]))
  go_loop [11] (fun v => ∃ i : Nat, i ≤ 16 ∧ v = .int .i64 i ∧ ∀ j, j < i → hexD j ≠ c) (fun v => 16 - (intOf v).toNat)
  case atStart => exact ⟨0, by omega, rfl, fun j hj => by omega⟩
  case round =>
    obtain ⟨i, hi, rfl, hno⟩ := hrel
    by_cases hlt : i < 16
    · have cb : w1.cell? ⟨w.heap.size, i, none⟩ = some (.int .u8 (hexD i)) := by
        rw [HCELL.out i hlt]
        congr 2
        rw [Utf.byteAt_eq (show i < hexA.size from hlt)]
        exact congrArg (fun n : Nat => (n : Int)) (hexA_get i hlt)
      have i16 : (i : Int) < 16 := by omega
      by_cases he : hexD i = c
      · have hn := hexNum_of hlt he
        have de : ((hexD i : Int) == (c : Int)) = true := by simp; omega
        have HN := Lib.hid hn
        clear hn he
        go_wp2
        go_ret
        exact ⟨ret_int HN.out.symm, HG1.out⟩
      · have de : ((hexD i : Int) == (c : Int)) = false := by simp; omega
        go_wp2
        go_round
        case rel =>
          refine ⟨i + 1, by omega, by go_num, fun j hj => ?_⟩
          by_cases h : j = i
          · subst h; exact he
          · exact hno j (by omega)
        case measure => simp [intOf]; omega
    · obtain rfl : i = 16 := by omega
      have hn := hexNum_none hno
      have HN := Lib.hid hn
      clear hn hno
      go_wp2
      go_ret
      exact ⟨ret_int HN.out.symm, HG1.out⟩

/-- may these be letters of bytes? -/
def hexOK (s : ByteArray) : Bool := decide (s.size % 2 = 0) && (List.range s.size).all fun i => decide (0 ≤ hexNum (Utf.byteAt s i))
/-- the byte of two letters -/
def unhexB (s : ByteArray) (j : Nat) : Int := 16 * hexNum (Utf.byteAt s (2 * j)) + hexNum (Utf.byteAt s (2 * j + 1))
def unhexV (s : ByteArray) (k : Nat) : List Value := (List.range k).map fun j => .int .u8 (unhexB s j)

theorem unhexV_length (s : ByteArray) (k : Nat) : (unhexV s k).length = k := by simp [unhexV]
theorem unhexV_succ (s : ByteArray) (k : Nat) : unhexV s (k + 1) = unhexV s k ++ [.int .u8 (unhexB s k)] := by unfold unhexV; rw [List.range_succ, List.map_append]; rfl

theorem or_step : ∀ r : Fin 16, ∀ n : Fin 16, bits BinOp.or IntKind.u32 (IntKind.u32.wrap ((r.val : Int) * 16)) (IntKind.u32.wrap (n.val : Int)) = 16 * (r.val : Int) + n.val := by decide +kernel

theorem or_step' (r n : Int) (hr : 0 ≤ r ∧ r < 16) (hn : 0 ≤ n ∧ n < 16) : bits BinOp.or IntKind.u32 (IntKind.u32.wrap (r * 16)) (IntKind.u32.wrap n) = 16 * r + n := by
  have h := or_step ⟨r.toNat, by omega⟩ ⟨n.toNat, by omega⟩
  simp only at h
  rwa [show ((r.toNat : Nat) : Int) = r from by omega, show ((n.toNat : Nat) : Int) = n from by omega] at h

theorem or_step2 : ∀ r : Fin 16, ∀ n : Fin 16, bits BinOp.or IntKind.u32 ((r.val : Int) * 16) (n.val : Int) = 16 * (r.val : Int) + n.val := by decide +kernel

theorem or_two (r n : Int) (hr : 0 ≤ r ∧ r < 16) (hn : 0 ≤ n ∧ n < 16) : bits BinOp.or IntKind.u32 (r * 16) n = 16 * r + n := by
  have h := or_step2 ⟨r.toNat, by omega⟩ ⟨n.toNat, by omega⟩
  simp only at h
  rwa [show ((r.toNat : Nat) : Int) = r from by omega, show ((n.toNat : Nat) : Int) = n from by omega] at h

theorem or_zero (n : Int) (hn : 0 ≤ n ∧ n < 16) : bits BinOp.or IntKind.u32 0 n = n := by
  have := or_two 0 n (by omega) hn
  rw [Int.zero_mul] at this
  omega

theorem and_zero (y : Int) (hy : 0 ≤ y ∧ y < 256) : bits BinOp.and IntKind.u32 y 0 = 0 := by
  have h := u32_and_nat y.toNat 0 (by omega) (by omega)
  rw [show ((y.toNat : Nat) : Int) = y from by omega] at h
  simpa using h

def HexReadPost (s : ByteArray) (w : World) (e : Ending) (w' : World) : Prop :=
  ∃ sl er, e = .returned (.tuple #[sl, er]) ∧ Chg w w' [] ∧
    ((hexOK s = true ∧ er = .nilIface ∧ Lst w' sl 5 (unhexV s (s.size / 2)) ∧ ∀ g, sl.ownBlock = some g → w.heap.size ≤ g) ∨ (hexOK s = false ∧ sl = .slice none 0 0 ∧ ∃ ti x, er = .iface ti x))

set_option maxRecDepth 100000 in
set_option maxHeartbeats 8000000 in
theorem base_Read_hex (s : ByteArray) (hs : s.size ≤ 2147483648) (w : World) :
    Calls Tryz.prog 56 #[.int .u8 1, .string s] w (HexReadPost s w) := by
  go_enter Tryz.func56, Tryz.ntmps56
  go_wp2_with (first | (go_at_call 86; refine (base_bits_hex _).mono ?_; rintro e w2 ⟨rfl, rfl⟩))
  go_loopw [7, 8, 9, 10] (fun v7 v8 v9 v10 wr => ∃ (i : Nat) (vv : Value), i ≤ s.size ∧ v10 = .int .i64 i ∧ vv = v7 ∧ v9 = .int .i64 (4 * (i % 2) : Nat) ∧ v8 = .int .u32 (if i % 2 = 1 then hexNum (Utf.byteAt s (i - 1)) else 0) ∧
      (∀ j, j < i → 0 ≤ hexNum (Utf.byteAt s j)) ∧ Lst wr vv 5 (unhexV s (i / 2)) ∧ Chg w wr [] ∧ ∀ g, vv.ownBlock = some g → w.heap.size ≤ g)
    (fun _ _ _ v10 _ => s.size - (intOf v10).toNat)
  case atStart => exact ⟨0, _, by omega, rfl, rfl, rfl, rfl, fun j hj => by omega, Lst.nil _ _, Chg.refl _ _, fun g hg => by cases hg⟩
  case round =>
    obtain ⟨wa, rfl⟩ : ∃ x, x = wr := ⟨_, rfl⟩
    obtain ⟨i, vv, hi, rfl, rfl, rfl, rfl, hlet, hL, hg, hO⟩ := hrel
    have HLET := Lib.hid hlet
    have HL := Lib.hid hL
    have HG := Lib.hid hg
    have HO := Lib.hid hO
    clear hlet hL hg hO
    by_cases hlt : i < s.size
    · have hbyte : Utf.byteAt s i = (s[i]'hlt).toNat := Utf.byteAt_eq hlt
      have hx16 := hexNum_lt (Utf.byteAt s i)
      obtain ⟨x, hx⟩ : ∃ x, x = hexNum (Utf.byteAt s i) := ⟨_, rfl⟩
      have HNM : Hid (∀ w, Calls Tryz.prog 95 #[.int .u8 1, .int .u8 ((s[i]'hlt).toNat : Int)] w fun e w' => e = .returned (.int .i64 x) ∧ Chg w w' []) := Lib.hid (by
        intro w; rw [hx, ← hbyte]; exact base_number_hex _ (Utf.byteAt_lt s i) w)
      rw [← hx] at hx16
      have HX := Lib.hid hx
      have hx1 : -1 ≤ x := by rw [hx]; unfold hexNum; split; omega; split <;> omega
      clear hbyte hx
      by_cases hneg : x < 0
      · have dn : decide (x < 0) = true := decide_eq_true hneg
        go_wp2_with (first | (go_at_call 95; refine (HNM.out _).mono ?_; rintro e w2 ⟨rfl, hg2⟩; have HG2 := Lib.hid hg2; clear hg2))
        all_goals
          go_ret2
          refine ⟨_, _, rfl, HG.out.trans HG2.out, .inr ⟨?_, rfl, _, _, rfl⟩⟩
          unfold hexOK
          rw [Bool.and_eq_false_iff]
          right
          rw [List.all_eq_false]
          exact ⟨i, List.mem_range.2 hlt, by rw [← HX.out]; simp; omega⟩
      · have dn : decide (x < 0) = false := decide_eq_false hneg
        have hx0 : 0 ≤ x := by omega
        have hLET : ∀ j, j < i + 1 → 0 ≤ hexNum (Utf.byteAt s j) := fun j hj => by
          by_cases h : j = i
          · subst h; rw [← HX.out]; exact hx0
          · exact HLET.out j (by omega)
        have HLET2 := Lib.hid hLET
        clear hLET hneg hx1
        by_cases hpar : i % 2 = 0
        · have e1 : ((4 * (i % 2) : Nat) : Int) = 0 := by omega
          have e2 : (if i % 2 = 1 then hexNum (Utf.byteAt s (i - 1)) else 0) = 0 := by rw [if_neg (by omega)]
          rw [e1, e2]
          have HPAR := Lib.hid hpar
          have hor := or_zero x (by omega)
          clear e1 e2 hpar
          go_wp2_with (first | (go_at_call 95; refine (HNM.out _).mono ?_; rintro e w2 ⟨rfl, hg2⟩; have HG2 := Lib.hid hg2; clear hg2))
          go_roundw
          case rel =>
            refine ⟨i + 1, _, by omega, by go_num, rfl, ?_, ?_, HLET2.out, ?_, HG.out.trans HG2.out, HO.out⟩
            · have := HPAR.out; rw [show (i + 1) % 2 = 1 from by omega]; rfl
            · have := HPAR.out; rw [if_pos (by omega), show i + 1 - 1 = i from by omega, ← HX.out]
            · have := HPAR.out; rw [show (i + 1) / 2 = i / 2 from by omega]; exact HL.out.kept HG2.out (by simp)
          case measure => simp [intOf]; omega
        · have e1 : ((4 * (i % 2) : Nat) : Int) = 4 := by omega
          obtain ⟨r, hr⟩ : ∃ r, r = hexNum (Utf.byteAt s (i - 1)) := ⟨_, rfl⟩
          have hr0 : 0 ≤ r := by rw [hr]; exact HLET.out (i - 1) (by omega)
          have hr16 : r < 16 := by rw [hr]; exact hexNum_lt _
          have e2 : (if i % 2 = 1 then hexNum (Utf.byteAt s (i - 1)) else 0) = r := by rw [if_pos (by omega), hr]
          rw [e1, e2]
          have hub : unhexB s (i / 2) = 16 * r + x := by unfold unhexB; rw [show 2 * (i / 2) = i - 1 from by omega, show i - 1 + 1 = i from by omega, ← hr, ← HX.out]
          have HUB := Lib.hid hub
          have HPAR := Lib.hid hpar
          have hor := or_two r x (by omega) (by omega)
          obtain ⟨y, hy⟩ : ∃ y, y = 16 * r + x := ⟨_, rfl⟩
          have hy0 : 0 ≤ y ∧ y < 256 := by omega
          obtain ⟨hy0, hy1⟩ := hy0
          rw [← hy] at hor HUB
          have HLN : Hid ((unhexV s (i / 2)).length = i / 2) := Lib.hid (unhexV_length _ _)
          have hid2 : i / 2 ≤ 2147483648 := by omega
          clear e1 e2 hpar hub hr hy
          go_wp2_with (first
            | (go_at_call 95; refine (HNM.out _).mono ?_; rintro e w2 ⟨rfl, hg2⟩; have HG2 := Lib.hid hg2; have HL2 := Lib.hid (HL.out.kept hg2 (by simp)); clear hg2)
            | (at_builtin; go_loud (refine wpList_append1 rfl _ _ _ rfl 5 (.int .u8 0) 1 Tryz.underlying90 info_byte rfl vv (unhexV s (i / 2)) (by rfl) (by exact HL2.out.kept (bs := []) (by (repeat (first | exact Chg.refl _ _ | with_reducible refine Chg.drewN ?_ _ | with_reducible refine Chg.drew ?_ | with_reducible refine Chg.alloc ?_ _ | with_reducible refine Chg.setCell ?_ _ _ (by simp) | with_reducible refine Chg.setCell ?_ _ _ (by simp; omega)))) (by simp)) w2.heap.size (.int .u8 y) (by rfl) (by exact cell_new (by simp) _ _) rfl (by rw [HLN.out]; omega) (by rw [HLN.out]; omega) ?_); rw [HLN.out]; intro g3 cap3 w3 hL3 hC3 hG3; have HL3 := Lib.hid hL3; have HC3 := Lib.hid hC3; have HG3 := Lib.hid hG3; clear hL3 hC3 hG3))
          go_roundw
          case rel =>
            have hgr : Chg w w2 [] := HG.out.trans HG2.out
            refine ⟨i + 1, _, by omega, by go_num, rfl, ?_, ?_, HLET2.out, ?_, ?_, ?_⟩
            · have := HPAR.out; rw [show (i + 1) % 2 = 0 from by omega]; rfl
            · have := HPAR.out; rw [if_neg (by omega), and_zero y ⟨hy0, hy1⟩]
            · have := HPAR.out
              rw [show (i + 1) / 2 = i / 2 + 1 from by omega, unhexV_succ, HUB.out]; exact HL3.out
            · exact Chg.own (sv := .slice none 0 0) (by (repeat (first | exact hgr | with_reducible refine Chg.drewN ?_ _ | with_reducible refine Chg.drew ?_ | with_reducible refine Chg.alloc ?_ _ | with_reducible refine Chg.setCell ?_ _ _ (by simp) | with_reducible refine Chg.setCell ?_ _ _ (by simp; omega)))) HC3.out (fun g hg => by cases hg) (fun g hg => .inr (HO.out g hg))
            · intro g' hg'
              simp [Value.ownBlock] at hg'
              subst hg'
              rcases HG3.out with h | h
              · exact HO.out _ h
              · have := hgr.size; simp at h; omega
          case measure => simp [intOf]; omega
    · obtain rfl : i = s.size := by omega
      by_cases hpar : s.size % 2 = 0
      · have e1 : ((4 * (s.size % 2) : Nat) : Int) = 0 := by omega
        have e2 : (if s.size % 2 = 1 then hexNum (Utf.byteAt s (s.size - 1)) else 0) = 0 := by rw [if_neg (by omega)]
        rw [e1, e2]
        have hok : hexOK s = true := by
          unfold hexOK
          rw [Bool.and_eq_true]
          exact ⟨decide_eq_true hpar, List.all_eq_true.2 fun j hj => decide_eq_true (HLET.out j (List.mem_range.1 hj))⟩
        have HOK := Lib.hid hok
        clear e1 e2 hpar hok
        go_wp2_with fail
        go_ret2
        exact ⟨_, _, rfl, HG.out, .inl ⟨HOK.out, rfl, HL.out, HO.out⟩⟩
      · have e1 : ((4 * (s.size % 2) : Nat) : Int) = 4 := by omega
        rw [e1]
        have hok : hexOK s = false := by unfold hexOK; rw [decide_eq_false hpar]; rfl
        have HOK := Lib.hid hok
        clear e1 hpar hok
        go_wp2_with fail
        all_goals
          go_ret2
          exact ⟨_, _, rfl, HG.out, .inr ⟨HOK.out, rfl, _, _, rfl⟩⟩
end Go.Proofs.YtfdhgakalojahaaGreatDoor

/- WALKS: the reference's layer 10: a step that is refused. WALKS: the program's layer 10: any step. -/
import Derived.Test.YtfdhgakalojahaaGreatDoorM36
import Derived.Test.YtfdhgakalojahaaGreatDoorM31
import Derived.Test.YtfdhgakalojahaaGreatDoorM06
import Derived.Test.YtfdhgakalojahaaGreatDoorM38
import Derived.Test.YtfdhgakalojahaaGreatDoorM37
set_option linter.unusedSimpArgs false
set_option linter.unusedVariables false
set_option linter.unnecessarySimpa false
set_option linter.unusedSectionVars false
namespace Go.Proofs.YtfdhgakalojahaaGreatDoor
open Go Go.RowKit Tree

/-- a row of values of the reference's -/
def RowV (w : World) (F : Nat → Prop) (rv : Value) (l : List Tr) : Prop :=
  ∃ xs, LstK w rv 42 6 l.length xs ∧ ValsAt w F l xs ∧ (∀ b, F b → b < w.heap.size) ∧ (∀ g, rv.ownBlock = some g → ¬ F g)

def RDoNo (w : World) (e : Ending) (w' : World) : Prop := (∃ (v : Value) (k : Int), k ≠ 0 ∧ e = .returned (.tuple #[v, .int .i64 k])) ∧ Chg w w' []

theorem RowC.rowAt {w : World} {sl : Value} {n : Nat} {xs : List Value} (h : RowC w sl 1 n xs) : RowAt w (fun _ => True) sl xs := by
  obtain ⟨a, c, rfl, h2, h3⟩ := h.form
  rw [Nat.mul_one] at h3
  by_cases h0 : n = 0
  · subst h0
    exact .inl ⟨List.eq_nil_of_length_eq_zero h3, a, c, rfl⟩
  · obtain ⟨b, o, rfl, hc⟩ := h.base (by omega) (by decide)
    exact .inr ⟨b, o, c, by rw [h3], trivial, hc⟩

def StpVs (s : StepI) (sk : Value) : Value := StpV s.sort s.flag s.bits s.text s.count sk

/-- what the checks of a step find -/
structure Chk (s : StepI) (ka : Option Addr) (kn kc : Nat) (w0 : World) (B : Nat) (bF bT bK bD : Bool) : Prop where
  cells : ∀ wx, Chg w0 wx [] → Blk wx B [.int .i64 s.sort, .bool s.flag, .int .u64 s.bits, .string s.text, .int .i64 s.count, .slice ka kn kc] 50
  fin : ∀ wx, Calls Tryz.prog 64 #[.int .u64 s.bits] wx fun e w' => e = .returned (.bool bF) ∧ Chg wx w' []
  text : ∀ wx, Calls Tryz.prog 47 #[.string s.text] wx fun e w' => e = .returned (.bool bT) ∧ wx = w'
  keys : ∀ wx, Chg w0 wx [] → Calls Tryz.prog 65 #[.slice ka kn kc] wx fun e w' => e = .returned (.bool bK) ∧ Chg wx w' []
  twice : bK = true → ∀ wx, Chg w0 wx [] → Calls Tryz.prog 66 #[.slice ka kn kc] wx fun e w' => e = .returned (.bool bD) ∧ Chg wx w' []

set_option maxRecDepth 100000 in
set_option maxHeartbeats 4000000 in
theorem r10_Do_no (l : List Tr) (rv : Value) (s : StepI) (sk : Value) (w : World) (hr : ∃ a c, rv = .slice a l.length c) (hK : RowC w sk 1 s.keys.length (strs s.keys)) (hb : StepB s) (hl : l.length ≤ 1099511627776) (hno : okS s = false ∨ l.length < nOf s) :
    Calls Tryz.prog 40 #[rv, .agg #[.int .i64 s.sort, .bool s.flag, .int .u64 s.bits, .string s.text, .int .i64 s.count, sk]] w (RDoNo w) := by
  obtain ⟨ra, rc, rfl⟩ := hr
  obtain ⟨ka, kc, rfl, hkc, _⟩ := hK.form
  have hks : ∀ wx, Chg w wx [] → RowC wx (.slice ka s.keys.length kc) 1 s.keys.length (strs s.keys) := fun wx h => hK.kept h
  obtain ⟨w0, hw0⟩ : ∃ x, x = w.alloc (.cells #[.int .i64 s.sort, .bool s.flag, .int .u64 s.bits, .string s.text, .int .i64 s.count, .slice ka s.keys.length kc] 50) := ⟨_, rfl⟩
  have HG0 : Hid (Chg w w0 []) := by rw [hw0]; exact Lib.hid ((Chg.refl w []).alloc _)
  have HB0 : Hid (Blk w0 w.heap.size [.int .i64 s.sort, .bool s.flag, .int .u64 s.bits, .string s.text, .int .i64 s.count, .slice ka s.keys.length kc] 50) := by rw [hw0]; exact Lib.hid (Blk.new w _ _)
  obtain ⟨z1, z2, z3, z4, z5, z6, z7, z8⟩ := Blk.cells6 HB0.out
  have hcnt := hb.count
  have HC : Hid (Chk s ka s.keys.length kc w0 w.heap.size (Fl.finB s.bits) (Utf.rightB s.text) (s.keys.all Utf.rightB) (!decide s.keys.Nodup)) := Lib.hid
    { cells := fun wx h => HB0.out.kept h (by simp)
      fin := fun wx => r10_finite s.bits hb.bits wx
      text := fun wx => r3_Right s.text wx hb.text
      keys := fun wx h => r10_right (fun _ => True) _ s.keys wx (hks wx (HG0.out.trans h)).rowAt hb.size (by have := hb.keys; omega)
      twice := fun hk wx h => r10_twice s.keys _ wx (hks wx (HG0.out.trans h)) (fun x hx => ⟨List.all_eq_true.1 hk x hx, hb.size x hx⟩) (by have := hb.keys; omega) }
  have HW := Lib.hid hw0
  have hkl := hb.keys
  have hok := hno
  rw [show (okS s = false) = ¬ (okS s = true) from by simp, okS_iff] at hok
  have hus : usedB s.sort s.flag s.bits s.text s.count s.keys.length = true → 0 ≤ s.count ∧ (s.count = 0 ∨ s.keys.length = 0) := fun h => by
    obtain ⟨_, _, h0, _, _, _, h7, h8⟩ := used_iff h
    refine ⟨h0, ?_⟩
    by_cases g : s.count = 0
    · exact .inl g
    · by_cases g2 : s.keys = []
      · exact .inr (by rw [g2]; rfl)
      · have := h7 g; have := h8 g2; omega
  obtain ⟨bU, hU⟩ : ∃ x, x = usedB s.sort s.flag s.bits s.text s.count s.keys.length := ⟨_, rfl⟩
  obtain ⟨bF, hF⟩ : ∃ x, x = Fl.finB s.bits := ⟨_, rfl⟩
  obtain ⟨bT, hT⟩ : ∃ x, x = Utf.rightB s.text := ⟨_, rfl⟩
  obtain ⟨bK, hKK⟩ : ∃ x, x = s.keys.all Utf.rightB := ⟨_, rfl⟩
  obtain ⟨bD, hD⟩ : ∃ x, x = !decide s.keys.Nodup := ⟨_, rfl⟩
  have hnd : s.keys.Nodup ↔ bD = false := by rw [hD]; simp
  rw [← hU, ← hF, ← hT, ← hKK, hnd] at hok
  rw [← hU] at hus
  rw [← hF, ← hT, ← hKK, ← hD] at HC
  have HU := Lib.hid hU.symm
  clear hU hF hT hKK hD hnd hw0 hno hks hK
  obtain ⟨kn, hkn⟩ : ∃ x, x = s.keys.length := ⟨_, rfl⟩
  have hNO : nOf s = s.count.toNat + kn := by unfold nOf; rw [hkn]
  rw [hNO] at hok
  rw [← hkn] at HC HU HW z8 hkl hkc hus ⊢
  clear hkn hNO hb
  cases bU with
  | false =>
    clear hok hus
    go_enter Tryz.func40, Tryz.ntmps40
    go_wp2_with fail
    rw [← HW.out]
    go_wp2_with (first
      | (go_at_call 63; refine (r10_Used s.sort s.flag s.bits s.text s.count ka kn kc _).mono ?_; rintro e w1 ⟨rfl, hgA⟩; rw [HU.out]; obtain ⟨a1, a2, a3, a4, a5, a6, a7, a8⟩ := Blk.cells6 (HC.out.cells _ hgA))
      | (go_at_call 64; refine (HC.out.fin _).mono ?_; rintro e w2 ⟨rfl, hb⟩; have hgB := hgA.trans hb; obtain ⟨b1, b2, b3, b4, b5, b6, b7, b8⟩ := Blk.cells6 (HC.out.cells _ hgB))
      | (go_at_call 47; refine (HC.out.text _).mono ?_; rintro e w3 ⟨rfl, rfl⟩)
      | (go_at_call 65; refine (HC.out.keys _ (by first | exact hgB | exact hgA)).mono ?_; rintro e w4 ⟨rfl, hc⟩; have hgC : Chg w0 w4 [] := (by first | exact hgB.trans hc | exact hgA.trans hc); obtain ⟨c1, c2, c3, c4, c5, c6, c7, c8⟩ := Blk.cells6 (HC.out.cells _ hgC))
      | (go_at_call 66; refine (HC.out.twice rfl _ hgC).mono ?_; rintro e w5 ⟨rfl, hd⟩; have hgD := hgC.trans hd; obtain ⟨d1, d2, d3, d4, d5, d6, d7, d8⟩ := Blk.cells6 (HC.out.cells _ hgD)))
    go_ret2
    exact ⟨⟨_, _, by decide, rfl⟩, HG0.out.trans hgA⟩
  | true =>
    obtain ⟨u3, u4⟩ := hus rfl
    by_cases h3 : s.sort = 3
    · have d3 : (s.sort == 3) = true := by simp [h3]
      have H3 := Lib.hid h3
      clear h3
      cases bF with
      | false =>
        clear hok hus
        go_enter Tryz.func40, Tryz.ntmps40
        go_wp2_with fail
        rw [← HW.out]
        go_wp2_with (first
          | (go_at_call 63; refine (r10_Used s.sort s.flag s.bits s.text s.count ka kn kc _).mono ?_; rintro e w1 ⟨rfl, hgA⟩; rw [HU.out]; obtain ⟨a1, a2, a3, a4, a5, a6, a7, a8⟩ := Blk.cells6 (HC.out.cells _ hgA))
          | (go_at_call 64; refine (HC.out.fin _).mono ?_; rintro e w2 ⟨rfl, hb⟩; have hgB := hgA.trans hb; obtain ⟨b1, b2, b3, b4, b5, b6, b7, b8⟩ := Blk.cells6 (HC.out.cells _ hgB))
          | (go_at_call 47; refine (HC.out.text _).mono ?_; rintro e w3 ⟨rfl, rfl⟩)
          | (go_at_call 65; refine (HC.out.keys _ (by first | exact hgB | exact hgA)).mono ?_; rintro e w4 ⟨rfl, hc⟩; have hgC : Chg w0 w4 [] := (by first | exact hgB.trans hc | exact hgA.trans hc); obtain ⟨c1, c2, c3, c4, c5, c6, c7, c8⟩ := Blk.cells6 (HC.out.cells _ hgC))
          | (go_at_call 66; refine (HC.out.twice rfl _ hgC).mono ?_; rintro e w5 ⟨rfl, hd⟩; have hgD := hgC.trans hd; obtain ⟨d1, d2, d3, d4, d5, d6, d7, d8⟩ := Blk.cells6 (HC.out.cells _ hgD)))
        go_ret2
        exact ⟨⟨_, _, by decide, rfl⟩, HG0.out.trans hgB⟩
      | true =>
        cases bT with
        | false =>
          clear hok hus
          go_enter Tryz.func40, Tryz.ntmps40
          go_wp2_with fail
          rw [← HW.out]
          go_wp2_with (first
            | (go_at_call 63; refine (r10_Used s.sort s.flag s.bits s.text s.count ka kn kc _).mono ?_; rintro e w1 ⟨rfl, hgA⟩; rw [HU.out]; obtain ⟨a1, a2, a3, a4, a5, a6, a7, a8⟩ := Blk.cells6 (HC.out.cells _ hgA))
            | (go_at_call 64; refine (HC.out.fin _).mono ?_; rintro e w2 ⟨rfl, hb⟩; have hgB := hgA.trans hb; obtain ⟨b1, b2, b3, b4, b5, b6, b7, b8⟩ := Blk.cells6 (HC.out.cells _ hgB))
            | (go_at_call 47; refine (HC.out.text _).mono ?_; rintro e w3 ⟨rfl, rfl⟩)
            | (go_at_call 65; refine (HC.out.keys _ (by first | exact hgB | exact hgA)).mono ?_; rintro e w4 ⟨rfl, hc⟩; have hgC : Chg w0 w4 [] := (by first | exact hgB.trans hc | exact hgA.trans hc); obtain ⟨c1, c2, c3, c4, c5, c6, c7, c8⟩ := Blk.cells6 (HC.out.cells _ hgC))
            | (go_at_call 66; refine (HC.out.twice rfl _ hgC).mono ?_; rintro e w5 ⟨rfl, hd⟩; have hgD := hgC.trans hd; obtain ⟨d1, d2, d3, d4, d5, d6, d7, d8⟩ := Blk.cells6 (HC.out.cells _ hgD)))
          go_ret2
          exact ⟨⟨_, _, by decide, rfl⟩, HG0.out.trans hgB⟩
        | true =>
          cases bK with
          | false =>
            clear hok hus
            go_enter Tryz.func40, Tryz.ntmps40
            go_wp2_with fail
            rw [← HW.out]
            go_wp2_with (first
              | (go_at_call 63; refine (r10_Used s.sort s.flag s.bits s.text s.count ka kn kc _).mono ?_; rintro e w1 ⟨rfl, hgA⟩; rw [HU.out]; obtain ⟨a1, a2, a3, a4, a5, a6, a7, a8⟩ := Blk.cells6 (HC.out.cells _ hgA))
              | (go_at_call 64; refine (HC.out.fin _).mono ?_; rintro e w2 ⟨rfl, hb⟩; have hgB := hgA.trans hb; obtain ⟨b1, b2, b3, b4, b5, b6, b7, b8⟩ := Blk.cells6 (HC.out.cells _ hgB))
              | (go_at_call 47; refine (HC.out.text _).mono ?_; rintro e w3 ⟨rfl, rfl⟩)
              | (go_at_call 65; refine (HC.out.keys _ (by first | exact hgB | exact hgA)).mono ?_; rintro e w4 ⟨rfl, hc⟩; have hgC : Chg w0 w4 [] := (by first | exact hgB.trans hc | exact hgA.trans hc); obtain ⟨c1, c2, c3, c4, c5, c6, c7, c8⟩ := Blk.cells6 (HC.out.cells _ hgC))
              | (go_at_call 66; refine (HC.out.twice rfl _ hgC).mono ?_; rintro e w5 ⟨rfl, hd⟩; have hgD := hgC.trans hd; obtain ⟨d1, d2, d3, d4, d5, d6, d7, d8⟩ := Blk.cells6 (HC.out.cells _ hgD)))
            go_ret2
            exact ⟨⟨_, _, by decide, rfl⟩, HG0.out.trans hgC⟩
          | true =>
            cases bD with
            | true =>
              clear hok hus
              go_enter Tryz.func40, Tryz.ntmps40
              go_wp2_with fail
              rw [← HW.out]
              go_wp2_with (first
                | (go_at_call 63; refine (r10_Used s.sort s.flag s.bits s.text s.count ka kn kc _).mono ?_; rintro e w1 ⟨rfl, hgA⟩; rw [HU.out]; obtain ⟨a1, a2, a3, a4, a5, a6, a7, a8⟩ := Blk.cells6 (HC.out.cells _ hgA))
                | (go_at_call 64; refine (HC.out.fin _).mono ?_; rintro e w2 ⟨rfl, hb⟩; have hgB := hgA.trans hb; obtain ⟨b1, b2, b3, b4, b5, b6, b7, b8⟩ := Blk.cells6 (HC.out.cells _ hgB))
                | (go_at_call 47; refine (HC.out.text _).mono ?_; rintro e w3 ⟨rfl, rfl⟩)
                | (go_at_call 65; refine (HC.out.keys _ (by first | exact hgB | exact hgA)).mono ?_; rintro e w4 ⟨rfl, hc⟩; have hgC : Chg w0 w4 [] := (by first | exact hgB.trans hc | exact hgA.trans hc); obtain ⟨c1, c2, c3, c4, c5, c6, c7, c8⟩ := Blk.cells6 (HC.out.cells _ hgC))
                | (go_at_call 66; refine (HC.out.twice rfl _ hgC).mono ?_; rintro e w5 ⟨rfl, hd⟩; have hgD := hgC.trans hd; obtain ⟨d1, d2, d3, d4, d5, d6, d7, d8⟩ := Blk.cells6 (HC.out.cells _ hgD)))
              go_ret2
              exact ⟨⟨_, _, by decide, rfl⟩, HG0.out.trans hgD⟩
            | false =>
              have hfew : l.length < s.count.toNat + kn := hok.resolve_left (fun g => g ⟨rfl, fun _ => rfl, rfl, rfl, rfl⟩)
              have y1 : IntKind.i64.wrap (s.count + (kn : Int)) = s.count + (kn : Int) := IntWalk.i64_in _ (by omega)
              have y2 : (l.length : Int) < s.count + (kn : Int) := by omega
              clear hok hus
              go_enter Tryz.func40, Tryz.ntmps40
              go_wp2_with fail
              rw [← HW.out]
              go_wp2_with (first
                | (go_at_call 63; refine (r10_Used s.sort s.flag s.bits s.text s.count ka kn kc _).mono ?_; rintro e w1 ⟨rfl, hgA⟩; rw [HU.out]; obtain ⟨a1, a2, a3, a4, a5, a6, a7, a8⟩ := Blk.cells6 (HC.out.cells _ hgA))
                | (go_at_call 64; refine (HC.out.fin _).mono ?_; rintro e w2 ⟨rfl, hb⟩; have hgB := hgA.trans hb; obtain ⟨b1, b2, b3, b4, b5, b6, b7, b8⟩ := Blk.cells6 (HC.out.cells _ hgB))
                | (go_at_call 47; refine (HC.out.text _).mono ?_; rintro e w3 ⟨rfl, rfl⟩)
                | (go_at_call 65; refine (HC.out.keys _ (by first | exact hgB | exact hgA)).mono ?_; rintro e w4 ⟨rfl, hc⟩; have hgC : Chg w0 w4 [] := (by first | exact hgB.trans hc | exact hgA.trans hc); obtain ⟨c1, c2, c3, c4, c5, c6, c7, c8⟩ := Blk.cells6 (HC.out.cells _ hgC))
                | (go_at_call 66; refine (HC.out.twice rfl _ hgC).mono ?_; rintro e w5 ⟨rfl, hd⟩; have hgD := hgC.trans hd; obtain ⟨d1, d2, d3, d4, d5, d6, d7, d8⟩ := Blk.cells6 (HC.out.cells _ hgD)))
              go_ret2
              exact ⟨⟨_, _, by decide, rfl⟩, HG0.out.trans hgD⟩
    · have d3 : (s.sort == 3) = false := by simp [h3]
      have H3 := Lib.hid h3
      clear h3
      cases bT with
      | false =>
        clear hok hus
        go_enter Tryz.func40, Tryz.ntmps40
        go_wp2_with fail
        rw [← HW.out]
        go_wp2_with (first
          | (go_at_call 63; refine (r10_Used s.sort s.flag s.bits s.text s.count ka kn kc _).mono ?_; rintro e w1 ⟨rfl, hgA⟩; rw [HU.out]; obtain ⟨a1, a2, a3, a4, a5, a6, a7, a8⟩ := Blk.cells6 (HC.out.cells _ hgA))
          | (go_at_call 64; refine (HC.out.fin _).mono ?_; rintro e w2 ⟨rfl, hb⟩; have hgB := hgA.trans hb; obtain ⟨b1, b2, b3, b4, b5, b6, b7, b8⟩ := Blk.cells6 (HC.out.cells _ hgB))
          | (go_at_call 47; refine (HC.out.text _).mono ?_; rintro e w3 ⟨rfl, rfl⟩)
          | (go_at_call 65; refine (HC.out.keys _ (by first | exact hgB | exact hgA)).mono ?_; rintro e w4 ⟨rfl, hc⟩; have hgC : Chg w0 w4 [] := (by first | exact hgB.trans hc | exact hgA.trans hc); obtain ⟨c1, c2, c3, c4, c5, c6, c7, c8⟩ := Blk.cells6 (HC.out.cells _ hgC))
          | (go_at_call 66; refine (HC.out.twice rfl _ hgC).mono ?_; rintro e w5 ⟨rfl, hd⟩; have hgD := hgC.trans hd; obtain ⟨d1, d2, d3, d4, d5, d6, d7, d8⟩ := Blk.cells6 (HC.out.cells _ hgD)))
        go_ret2
        exact ⟨⟨_, _, by decide, rfl⟩, HG0.out.trans hgA⟩
      | true =>
        cases bK with
        | false =>
          clear hok hus
          go_enter Tryz.func40, Tryz.ntmps40
          go_wp2_with fail
          rw [← HW.out]
          go_wp2_with (first
            | (go_at_call 63; refine (r10_Used s.sort s.flag s.bits s.text s.count ka kn kc _).mono ?_; rintro e w1 ⟨rfl, hgA⟩; rw [HU.out]; obtain ⟨a1, a2, a3, a4, a5, a6, a7, a8⟩ := Blk.cells6 (HC.out.cells _ hgA))
            | (go_at_call 64; refine (HC.out.fin _).mono ?_; rintro e w2 ⟨rfl, hb⟩; have hgB := hgA.trans hb; obtain ⟨b1, b2, b3, b4, b5, b6, b7, b8⟩ := Blk.cells6 (HC.out.cells _ hgB))
            | (go_at_call 47; refine (HC.out.text _).mono ?_; rintro e w3 ⟨rfl, rfl⟩)
            | (go_at_call 65; refine (HC.out.keys _ (by first | exact hgB | exact hgA)).mono ?_; rintro e w4 ⟨rfl, hc⟩; have hgC : Chg w0 w4 [] := (by first | exact hgB.trans hc | exact hgA.trans hc); obtain ⟨c1, c2, c3, c4, c5, c6, c7, c8⟩ := Blk.cells6 (HC.out.cells _ hgC))
            | (go_at_call 66; refine (HC.out.twice rfl _ hgC).mono ?_; rintro e w5 ⟨rfl, hd⟩; have hgD := hgC.trans hd; obtain ⟨d1, d2, d3, d4, d5, d6, d7, d8⟩ := Blk.cells6 (HC.out.cells _ hgD)))
          go_ret2
          exact ⟨⟨_, _, by decide, rfl⟩, HG0.out.trans hgC⟩
        | true =>
          cases bD with
          | true =>
            clear hok hus
            go_enter Tryz.func40, Tryz.ntmps40
            go_wp2_with fail
            rw [← HW.out]
            go_wp2_with (first
              | (go_at_call 63; refine (r10_Used s.sort s.flag s.bits s.text s.count ka kn kc _).mono ?_; rintro e w1 ⟨rfl, hgA⟩; rw [HU.out]; obtain ⟨a1, a2, a3, a4, a5, a6, a7, a8⟩ := Blk.cells6 (HC.out.cells _ hgA))
              | (go_at_call 64; refine (HC.out.fin _).mono ?_; rintro e w2 ⟨rfl, hb⟩; have hgB := hgA.trans hb; obtain ⟨b1, b2, b3, b4, b5, b6, b7, b8⟩ := Blk.cells6 (HC.out.cells _ hgB))
              | (go_at_call 47; refine (HC.out.text _).mono ?_; rintro e w3 ⟨rfl, rfl⟩)
              | (go_at_call 65; refine (HC.out.keys _ (by first | exact hgB | exact hgA)).mono ?_; rintro e w4 ⟨rfl, hc⟩; have hgC : Chg w0 w4 [] := (by first | exact hgB.trans hc | exact hgA.trans hc); obtain ⟨c1, c2, c3, c4, c5, c6, c7, c8⟩ := Blk.cells6 (HC.out.cells _ hgC))
              | (go_at_call 66; refine (HC.out.twice rfl _ hgC).mono ?_; rintro e w5 ⟨rfl, hd⟩; have hgD := hgC.trans hd; obtain ⟨d1, d2, d3, d4, d5, d6, d7, d8⟩ := Blk.cells6 (HC.out.cells _ hgD)))
            go_ret2
            exact ⟨⟨_, _, by decide, rfl⟩, HG0.out.trans hgD⟩
          | false =>
            have hfew : l.length < s.count.toNat + kn := hok.resolve_left (fun g => g ⟨rfl, fun h => absurd h H3.out, rfl, rfl, rfl⟩)
            have y1 : IntKind.i64.wrap (s.count + (kn : Int)) = s.count + (kn : Int) := IntWalk.i64_in _ (by omega)
            have y2 : (l.length : Int) < s.count + (kn : Int) := by omega
            clear hok hus
            go_enter Tryz.func40, Tryz.ntmps40
            go_wp2_with fail
            rw [← HW.out]
            go_wp2_with (first
              | (go_at_call 63; refine (r10_Used s.sort s.flag s.bits s.text s.count ka kn kc _).mono ?_; rintro e w1 ⟨rfl, hgA⟩; rw [HU.out]; obtain ⟨a1, a2, a3, a4, a5, a6, a7, a8⟩ := Blk.cells6 (HC.out.cells _ hgA))
              | (go_at_call 64; refine (HC.out.fin _).mono ?_; rintro e w2 ⟨rfl, hb⟩; have hgB := hgA.trans hb; obtain ⟨b1, b2, b3, b4, b5, b6, b7, b8⟩ := Blk.cells6 (HC.out.cells _ hgB))
              | (go_at_call 47; refine (HC.out.text _).mono ?_; rintro e w3 ⟨rfl, rfl⟩)
              | (go_at_call 65; refine (HC.out.keys _ (by first | exact hgB | exact hgA)).mono ?_; rintro e w4 ⟨rfl, hc⟩; have hgC : Chg w0 w4 [] := (by first | exact hgB.trans hc | exact hgA.trans hc); obtain ⟨c1, c2, c3, c4, c5, c6, c7, c8⟩ := Blk.cells6 (HC.out.cells _ hgC))
              | (go_at_call 66; refine (HC.out.twice rfl _ hgC).mono ?_; rintro e w5 ⟨rfl, hd⟩; have hgD := hgC.trans hd; obtain ⟨d1, d2, d3, d4, d5, d6, d7, d8⟩ := Blk.cells6 (HC.out.cells _ hgD)))
            go_ret2
            exact ⟨⟨_, _, by decide, rfl⟩, HG0.out.trans hgD⟩
end Go.Proofs.YtfdhgakalojahaaGreatDoor

namespace Go.Proofs.YtfdhgakalojahaaGreatDoor
open Go Go.RowKit Tree

def NDoPost (F : Nat → Prop) (T : TypeId) (b : Nat) (sv : Value) (l : List Tr) (s : StepI) (w : World) (e : Ending) (w' : World) : Prop :=
  if fitS s l = true then DoPost F T b sv (doT l s) w e w' else NoPost w e w'

theorem NDoPost.yes {F : Nat → Prop} {T : TypeId} {b : Nat} {sv : Value} {l : List Tr} {s : StepI} {w : World} (h : fitS s l = true) : NDoPost F T b sv l s w = DoPost F T b sv (doT l s) w := by
  funext e w'; unfold NDoPost; rw [if_pos h]
theorem NDoPost.no {F : Nat → Prop} {T : TypeId} {b : Nat} {sv : Value} {l : List Tr} {s : StepI} {w : World} (h : fitS s l = false) : NDoPost F T b sv l s w = NoPost w := by
  funext e w'; unfold NDoPost; rw [if_neg (by simp [h])]

theorem RowC.rowLt {w : World} {sl : Value} {n : Nat} {xs : List Value} (h : RowC w sl 1 n xs) : RowAt w (fun k => k < w.heap.size) sl xs := by
  obtain ⟨a, c, rfl, h2, h3⟩ := h.form
  rw [Nat.mul_one] at h3
  by_cases h0 : n = 0
  · subst h0
    exact .inl ⟨List.eq_nil_of_length_eq_zero h3, a, c, rfl⟩
  · obtain ⟨b, o, rfl, hc⟩ := h.base (by omega) (by decide)
    have hx : xs[0]? = some xs[0] := List.getElem?_eq_getElem (by omega)
    exact .inr ⟨b, o, c, by rw [h3], World.block_lt_of_cell? w _ (hc 0 _ hx), hc⟩

theorem fit_plain {s : StepI} {l : List Tr} (hu : usedB s.sort s.flag s.bits s.text s.count s.keys.length = true) (h5 : s.sort ≠ 5) (h6 : s.sort ≠ 6) :
    s.count = 0 ∧ s.keys = [] ∧ nOf s = 0 ∧ doT l s = l ++ [treeOf s []] ∧ madeOf s l = treeOf s [] := by
  have hus := used_iff hu
  have h1 : s.count = 0 := Decidable.byContradiction fun g => h5 (hus.2.2.2.2.2.2.1 g)
  have h2 : s.keys = [] := Decidable.byContradiction fun g => h6 (hus.2.2.2.2.2.2.2 g)
  have h3 : nOf s = 0 := by unfold nOf; rw [h1, h2]; rfl
  have h4 : madeOf s l = treeOf s [] := by unfold madeOf; rw [h3, Nat.sub_zero, List.drop_length]
  refine ⟨h1, h2, h3, ?_, h4⟩
  unfold doT
  rw [h3, Nat.sub_zero, List.take_length, h4]

theorem node_do (F : Nat → Prop) (T : TypeId) (b : Nat) (sv : Value) (l : List Tr) (vs : List Value) (s : StepI) (sk : Value) (w : World) (hM : MkAt w F T b sv l vs) (hK : RowC w sk 1 s.keys.length (strs s.keys)) (hb : StepB s) (hf : Fits l) (hl : l.length ≤ 65536) :
    Calls Tryz.prog 41 #[.pointer (some ⟨b, 0, none⟩), StpV s.sort s.flag s.bits s.text s.count sk] w (NDoPost F T b sv l s w) := by
  obtain ⟨ka, kc, rfl, hkc, hkl⟩ := hK.form
  by_cases hu : usedB s.sort s.flag s.bits s.text s.count s.keys.length = true
  · have hus := used_iff hu
    have hfl : s.sort ≠ 2 → s.flag = false := fun g => by cases h : s.flag with
      | false => rfl
      | true => exact absurd (hus.2.2.2.1 h) g
    have hbi : s.sort ≠ 3 → s.bits = 0 := fun g => Decidable.byContradiction fun h => g (hus.2.2.2.2.1 h)
    have htx : s.sort ≠ 4 → s.text = noB := fun g => Decidable.byContradiction fun h => g (hus.2.2.2.2.2.1 h)
    by_cases h5 : s.sort = 5
    · have hks : s.keys = [] := Decidable.byContradiction fun g => by have := hus.2.2.2.2.2.2.2 g; omega
      have hko : ∃ ka' kc', (Value.slice ka s.keys.length kc) = .slice ka' 0 kc' := ⟨ka, kc, by rw [hks]; rfl⟩
      have hn : nOf s = s.count.toNat := by unfold nOf; rw [hks]; rfl
      have hcn : s.count = ((s.count.toNat : Nat) : Int) := by omega
      have hmk : madeOf s l = .list (l.drop (l.length - s.count.toNat)) := by unfold madeOf treeOf; rw [hn, if_neg (by omega), if_neg (by omega), if_neg (by omega), if_neg (by omega), if_pos h5]
      have hok : okS s = true := okS_iff.2 ⟨hu, fun g => by omega, by rw [htx (by omega)]; rfl, by rw [hks]; rfl, by rw [hks]; exact List.nodup_nil⟩
      rw [h5, hfl (by omega), hbi (by omega), htx (by omega)]
      by_cases hfew : s.count.toNat ≤ l.length
      · rw [hcn]
        refine (node_do_list F T b sv l vs s.count.toNat _ w hM hko hf hfew hl).mono fun e w' h => ?_
        unfold ListPost at h
        by_cases hw : (szT (.list (l.drop (l.length - s.count.toNat)))).within = true
        · rw [if_pos hw] at h
          rw [NDoPost.yes (by unfold fitS; rw [hok, hmk, hw, hn]; simp [hfew])]
          unfold doT
          rw [hmk, hn]
          exact h
        · rw [if_neg hw] at h
          rw [NDoPost.no (by unfold fitS; rw [hmk]; simp [hw])]
          exact h
      · rw [NDoPost.no (by unfold fitS; rw [hn]; simp [hfew])]
        exact node_do_list_few F T b sv l vs s.count _ w hM hko (by omega)
    · by_cases h6 : s.sort = 6
      · have hcz : s.count = 0 := Decidable.byContradiction fun g => h5 (hus.2.2.2.2.2.2.1 g)
        have hn : nOf s = s.keys.length := by unfold nOf; rw [hcz]; simp
        have hmk : madeOf s l = objT s.keys (l.drop (l.length - s.keys.length)) := by unfold madeOf treeOf; rw [hn, if_neg (by omega), if_neg (by omega), if_neg (by omega), if_neg (by omega), if_neg (by omega)]
        have htr : Utf.rightB s.text = true := by rw [htx (by omega)]; rfl
        have hrow := hK.rowLt
        have hrows : ∀ wx, Chg w wx [] → RowAt wx (fun k => k < w.heap.size) (.slice ka s.keys.length kc) (strs s.keys) := fun wx h => hrow.kept (h.keepsF (fun _ h => h) (by simp)) (fun _ h => h)
        have hMs : ∀ wx, Chg w wx [] → MkAt wx F T b sv l vs := fun wx h => hM.kept h
        have hby : (s.keys.map ByteArray.size).sum ≤ 1099511627776 := Nat.le_trans (show (s.keys.map ByteArray.size).sum ≤ 4294967296 from hb.sum) (by omega)
        rw [h6, hfl (by omega), hbi (by omega), htx (by omega), hcz]
        by_cases hr : ∀ k ∈ s.keys, Utf.rightB k = true
        · by_cases hnd : s.keys.Nodup
          · have hok : okS s = true := okS_iff.2 ⟨hu, fun g => by omega, htr, List.all_eq_true.2 hr, hnd⟩
            by_cases hfew : s.keys.length ≤ l.length
            · by_cases hw : (szT (objT s.keys (l.drop (l.length - s.keys.length)))).within = true
              · rw [NDoPost.yes (by unfold fitS; rw [hok, hmk, hw, hn]; simp [hfew])]
                unfold doT
                rw [hmk, hn]
                have := node_do_obj_ok F T b sv l vs (.slice ka s.keys.length kc) w hM _ s.keys hrow (fun _ h => h) hr hb.size (by omega) hnd hby hf hfew (by omega) hw
                exact this
              · rw [NDoPost.no (by unfold fitS; rw [hmk]; simp [hw])]
                exact node_do_obj_no b ka _ kc w fun wx h => node_object_long F T b sv l vs wx (hMs wx h) _ _ s.keys (hrows wx h) (fun k hk => Nat.lt_of_lt_of_le hk h.size) hr hb.size (by omega) hnd hby hf hfew (by omega) (by simpa using hw)
            · rw [NDoPost.no (by unfold fitS; rw [hn]; simp [hfew])]
              exact node_do_obj_no b ka _ kc w fun wx h => node_object_few F T b sv l vs wx (hMs wx h) _ _ s.keys (hrows wx h) (fun k hk => Nat.lt_of_lt_of_le hk h.size) hr hb.size hb.keys hnd hby (by omega)
          · have hok : okS s = false := by
              cases h : okS s with
              | false => rfl
              | true => exact absurd (okS_iff.1 h).2.2.2.2 hnd
            rw [NDoPost.no (by unfold fitS; rw [hok]; rfl)]
            exact node_do_obj_no b ka _ kc w fun wx h => node_object_twice F T b sv l vs wx (hMs wx h) _ _ s.keys (hrows wx h) (fun k hk => Nat.lt_of_lt_of_le hk h.size) hr hb.size hb.keys hnd hby
        · have hok : okS s = false := by
            cases h : okS s with
            | false => rfl
            | true => exact absurd (List.all_eq_true.1 (okS_iff.1 h).2.2.2.1) hr
          rw [NDoPost.no (by unfold fitS; rw [hok]; rfl)]
          exact node_do_obj_no b ka _ kc w fun wx h => node_object_wrong F T b sv l vs wx (hMs wx h) _ _ s.keys (hrows wx h) (fun k hk => Nat.lt_of_lt_of_le hk h.size) hr hb.size hb.keys
      · obtain ⟨hcz, hks, hn, hdo, hmk⟩ := fit_plain (l := l) hu h5 h6
        have hko : ∃ ka' kc', (Value.slice ka s.keys.length kc) = .slice ka' 0 kc' := ⟨ka, kc, by rw [hks]; rfl⟩
        have hkk : s.keys.all Utf.rightB = true ∧ s.keys.Nodup := by rw [hks]; exact ⟨rfl, List.nodup_nil⟩
        by_cases h1 : s.sort = 1
        · have hok : okS s = true := okS_iff.2 ⟨hu, fun g => by omega, by rw [htx (by omega)]; rfl, hkk.1, hkk.2⟩
          have ht : treeOf s [] = .null := by unfold treeOf; rw [if_pos h1]
          rw [NDoPost.yes (by unfold fitS; rw [hok, hmk, hn, ht]; simp; rfl), hdo, ht, h1, hfl (by omega), hbi (by omega), htx (by omega), hcz]
          exact node_do_null_ok F T b sv l vs _ w hM hko (by omega)
        · by_cases h2 : s.sort = 2
          · have hok : okS s = true := okS_iff.2 ⟨hu, fun g => by omega, by rw [htx (by omega)]; rfl, hkk.1, hkk.2⟩
            have ht : treeOf s [] = .flag s.flag := by unfold treeOf; rw [if_neg h1, if_pos h2]
            rw [NDoPost.yes (by unfold fitS; rw [hok, hmk, hn, ht]; simp; rfl), hdo, ht, h2, hbi (by omega), htx (by omega), hcz]
            exact node_do_flag_ok F T b sv l vs s.flag _ w hM hko (by omega)
          · by_cases h3 : s.sort = 3
            · have ht : treeOf s [] = .num (normB s.bits) := by unfold treeOf; rw [if_neg h1, if_neg h2, if_pos h3]
              by_cases hfin : Fl.finB s.bits = true
              · have hok : okS s = true := okS_iff.2 ⟨hu, fun _ => hfin, by rw [htx (by omega)]; rfl, hkk.1, hkk.2⟩
                rw [NDoPost.yes (by unfold fitS; rw [hok, hmk, hn, ht]; simp; rfl), hdo, ht, h3, hfl (by omega), htx (by omega), hcz]
                exact node_do_num_ok F T b sv l vs s.bits _ w hM hko hb.bits hfin (by omega)
              · have hok : okS s = false := by
                  cases h : okS s with
                  | false => rfl
                  | true => exact absurd ((okS_iff.1 h).2.1 h3) hfin
                rw [NDoPost.no (by unfold fitS; rw [hok]; rfl), h3, hfl (by omega), htx (by omega), hcz]
                exact node_do_num_no b s.bits _ w hko hb.bits (by simpa using hfin)
            · have h4 : s.sort = 4 := by omega
              have ht : treeOf s [] = .text s.text := by unfold treeOf; rw [if_neg h1, if_neg h2, if_neg h3, if_pos h4]
              by_cases hr : Utf.rightB s.text = true
              · have hok : okS s = true := okS_iff.2 ⟨hu, fun g => by omega, hr, hkk.1, hkk.2⟩
                by_cases hw : (szT (.text s.text)).within = true
                · rw [NDoPost.yes (by unfold fitS; rw [hok, hmk, hn, ht, hw]; simp), hdo, ht, h4, hfl (by omega), hbi (by omega), hcz]
                  exact node_do_text_ok F T b sv l vs s.text _ w hM hko hr hw (by omega) hb.text
                · rw [NDoPost.no (by unfold fitS; rw [hmk, ht]; simp [hw]), h4, hfl (by omega), hbi (by omega), hcz]
                  exact node_do_text_no b s.text _ w hko hb.text (.inr (by simpa using hw))
              · have hok : okS s = false := by
                  cases h : okS s with
                  | false => rfl
                  | true => exact absurd (okS_iff.1 h).2.2.1 hr
                rw [NDoPost.no (by unfold fitS; rw [hok]; rfl), h4, hfl (by omega), hbi (by omega), hcz]
                exact node_do_text_no b s.text _ w hko hb.text (.inl (by simpa using hr))
  · have hu' : usedB s.sort s.flag s.bits s.text s.count s.keys.length = false := by simpa using hu
    have hok : okS s = false := by
      cases h : okS s with
      | false => rfl
      | true => exact absurd (okS_iff.1 h).1 hu
    rw [NDoPost.no (by unfold fitS; rw [hok]; rfl)]
    exact node_do_unused b s ka _ kc w hu'
end Go.Proofs.YtfdhgakalojahaaGreatDoor

/- WALKS: the program's layer 10: a step of one text. WALKS: the program's layer 10: a step of one number. -/
import Derived.Test.YtfdhgakalojahaaGreatDoorM15
import Derived.Test.YtfdhgakalojahaaGreatDoorM07
import Derived.Test.YtfdhgakalojahaaGreatDoorM29
import Derived.Test.YtfdhgakalojahaaGreatDoorM09
import Derived.Test.YtfdhgakalojahaaGreatDoorM06
set_option linter.unusedSimpArgs false
set_option linter.unusedVariables false
set_option linter.unnecessarySimpa false
set_option linter.unusedSectionVars false
namespace Go.Proofs.YtfdhgakalojahaaGreatDoor
open Go Go.RowKit Tree

/-- the row behind a step that is done: the blocks of trees may have become more, by new ones -/
def DoPost (F : Nat → Prop) (T : TypeId) (b : Nat) (sv : Value) (l : List Tr) (w : World) (e : Ending) (w' : World) : Prop :=
  e = .returned .nilIface ∧ ∃ F' sv' vs', (∀ k, F k → F' k) ∧ (∀ k, F' k → k < w.heap.size → F k) ∧ MkAt w' F' T b sv' l vs' ∧ Chg w w' (b :: sv.ownBlock.toList)

/-- a step that is refused -/
def NoPost (w : World) (e : Ending) (w' : World) : Prop := (∃ n : Int, e = .returned (.iface 34 (.int .i64 n))) ∧ Chg w w' []

theorem MkAt.set {w : World} {F : Nat → Prop} {T : TypeId} {b : Nat} {sv : Value} {l : List Tr} {vs : List Value} (h : MkAt w F T b sv l vs) (p : Addr) (v : Value) (hb : p.block ≠ b) (hs : ∀ g, sv.ownBlock = some g → g ≠ p.block) (hF : ¬ F p.block) :
    MkAt (w.setCell p v) F T b sv l vs := by
  have hc : Chg w (w.setCell p v) [p.block] := (Chg.refl _ _).setCell _ _ (by simp)
  exact ⟨h.blk.set_other _ _ hb, h.lst.kept hc fun g hg hm => hs g hg (by simpa using hm), ItemsAt.kept (hc.keepsF h.lt fun k hk hf => hF (by simp at hk; subst hk; exact hf)) (fun _ h => h) l vs h.items, h.apart, h.apart',
    fun k hk => Nat.lt_of_lt_of_le (h.lt k hk) hc.size⟩

/-- the row is done with, and the named result is laid -/
theorem DoPost.done {F F' : Nat → Prop} {T : TypeId} {b : Nat} {sv : Value} {l : List Tr} {w w1 w2 : World} (h1 : Chg w w1 []) (h2 : MkPost F' T b sv l w1 w2) (hF : ∀ k, F k → F' k) (hF' : ∀ k, F' k → k < w.heap.size → F k)
    (hb : b < w.heap.size) (hs : ∀ g, sv.ownBlock = some g → g < w.heap.size) (k : Nat) (k1 : w.heap.size ≤ k) (k2 : k < w1.heap.size) (k3 : ¬ F' k) (v : Value) : DoPost F T b sv l w (.returned .nilIface) (w2.setCell ⟨k, 0, none⟩ v) := by
  obtain ⟨sv', vs', hM, hC, hg⟩ := h2
  refine ⟨rfl, F', sv', vs', hF, hF', hM.set _ _ (by simp; omega) (fun g h => ?_) k3, ((h1.none _).trans hC).setCell _ _ (by simp; omega)⟩
  have := h1.size
  rcases hg g h with h | h
  · have := hs g h; simp; omega
  · simp; omega

theorem MkPost.chg {F : Nat → Prop} {T : TypeId} {b : Nat} {sv : Value} {l : List Tr} {w w' : World} (h : MkPost F T b sv l w w') : Chg w w' (b :: sv.ownBlock.toList) := by
  obtain ⟨_, _, _, h, _⟩ := h; exact h

set_option maxRecDepth 100000 in
set_option maxHeartbeats 2000000 in
theorem node_do_text_ok (F : Nat → Prop) (T : TypeId) (b : Nat) (sv : Value) (l : List Tr) (vs : List Value) (s : ByteArray) (keys : Value) (w : World) (hM : MkAt w F T b sv l vs)
    (hk : ∃ ka kc, keys = .slice ka 0 kc) (hr : Utf.rightB s = true) (hw : (szT (.text s)).within = true) (hl : l.length ≤ 2147483648) (hs : s.size ≤ 2147483648) :
    Calls Tryz.prog 41 #[.pointer (some ⟨b, 0, none⟩), StpV 4 false 0 s 0 keys] w (DoPost F T b sv (l ++ [.text s]) w) := by
  obtain ⟨ka, kc, rfl⟩ := hk
  have hmf : ∀ (fn : Fn) (first cap : Array Value) (w : World), (Instr.makeFunc fn first cap).run Tryz.prog w = .ok (.func fn first cap) w := fun _ _ _ _ => rfl
  have hu : usedB 4 false 0 s 0 0 = true := by unfold usedB; simp
  have HMk := Lib.hid hM
  have HU := Lib.hid hu
  have HR := Lib.hid hr
  have HW := Lib.hid hw
  have HS0 := Lib.hid ((Blk.new w [.int .i64 4, .bool false, .int .u64 0, .string s, .int .i64 0, .slice ka 0 kc] 48).alloc (.cells #[.nilIface] 29))
  have HE0 := Lib.hid (Blk.new1 w (.cells [.int .i64 4, .bool false, .int .u64 0, .string s, .int .i64 0, .slice ka 0 kc].toArray 48) [.nilIface] 29)
  have hb := hM.blk.lt
  clear hM hu hr hw
  go_enter_defers Tryz.func41, Tryz.ntmps41
  unfold StpV
  go_wp2_with (first
    | (go_at_call 71; refine (node_used 4 false 0 s 0 ka 0 kc _).mono ?_; rintro e w1 ⟨rfl, hg1⟩; rw [HU.out]; have HS1 := Lib.hid (HS0.out.kept hg1 (by simp)); have HE1 := Lib.hid (HE0.out.kept hg1 (by simp)); obtain ⟨s1a, s1b, s10, s11, s12, s13, s14, s15⟩ := Blk.cells6 HS1.out; obtain ⟨e1a, e1b, e10⟩ := Blk.cells1 HE1.out)
    | (go_at_call 70; refine (node_refuse_ok _ _).mono ?_; rintro e w3 ⟨rfl, rfl⟩)
    | (go_at_call 54; refine (utf_Right s _ hs).mono ?_; rintro e w2 ⟨rfl, hg2⟩; rw [HR.out]; have HS2 := Lib.hid (HS1.out.kept hg2 (by simp)); have HE2 := Lib.hid (HE1.out.kept hg2 (by simp)); obtain ⟨s2a, s2b, s20, s21, s22, s23, s24, s25⟩ := Blk.cells6 HS2.out; obtain ⟨e2a, e2b, e20⟩ := Blk.cells1 HE2.out)
    | (go_at_call 72; go_loud (have hM2 := Lib.hid (HMk.out.kept ((((Chg.refl w []).alloc _).alloc _).trans (hg1.trans hg2))); refine (node_put_ok F T (.text s) _ b sv l vs _ hM2.out (by simp only [ItemAt]) HW.out hl).mono ?_; rintro e w4 ⟨rfl, hP⟩; have HP := Lib.hid hP; clear hP; have HE4 := Lib.hid (HE2.out.kept HP.out.chg (HMk.out.newNotIn (w.heap.size + 1) (by omega))); obtain ⟨e4a, e4b, e40⟩ := Blk.cells1 HE4.out)))
  refine leaves_cons (f := 69) (args := #[.pointer (some ⟨w.heap.size + 1, 0, none⟩)]) (by simp) (by simp [go_sem]) ?_
  refine (catch_idle ⟨w.heap.size + 1, 0, none⟩ _).mono ?_
  rintro e u' w'' ⟨rfl, rfl, rfl⟩
  have e50 : (w4.setCell ⟨w.heap.size + 1, 0, none⟩ .nilIface).cell? ⟨w.heap.size + 1, 0, none⟩ = some .nilIface := (HE4.out.set 0 _).cell 0
  simp [Leaves, settle, results, Tryz.results41, go_sem, e50]
  exact DoPost.done ((((Chg.refl w []).alloc _).alloc _).trans (hg1.trans hg2)) HP.out (fun _ h => h) (fun _ h _ => h) hb (fun g hg => HMk.out.lst.lt hg) _ (by omega) e2a (fun hf => by have := HMk.out.lt _ hf; omega) _
end Go.Proofs.YtfdhgakalojahaaGreatDoor

namespace Go.Proofs.YtfdhgakalojahaaGreatDoor
open Go Go.RowKit Tree

def normB (n : Nat) : Nat := if Fl.rung n = 0 then 0 else n

set_option maxRecDepth 100000 in
set_option maxHeartbeats 2000000 in
theorem node_do_num_ok (F : Nat → Prop) (T : TypeId) (b : Nat) (sv : Value) (l : List Tr) (vs : List Value) (n : Nat) (keys : Value) (w : World) (hM : MkAt w F T b sv l vs)
    (hk : ∃ ka kc, keys = .slice ka 0 kc) (hn : n < 18446744073709551616) (hf : Fl.finB n = true) (hl : l.length ≤ 2147483648) :
    Calls Tryz.prog 41 #[.pointer (some ⟨b, 0, none⟩), StpV 3 false n ⟨#[]⟩ 0 keys] w (DoPost F T b sv (l ++ [.num (normB n)]) w) := by
  obtain ⟨ka, kc, rfl⟩ := hk
  have hmf : ∀ (fn : Fn) (first cap : Array Value) (w : World), (Instr.makeFunc fn first cap).run Tryz.prog w = .ok (.func fn first cap) w := fun _ _ _ _ => rfl
  have hfb := run_frombits
  have hu : usedB 3 false n ⟨#[]⟩ 0 0 = true := by unfold usedB; simp
  have h1 : decide (9218868437227405312 < Fl.rung n) = false := by unfold Fl.finB at hf; simp at hf; simp; omega
  have h2 : decide (Fl.rung n = 9218868437227405312) = false := by unfold Fl.finB at hf; simp at hf; simp; omega
  have hw : (szT (.num (normB n))).within = true := rfl
  have HMk := Lib.hid hM
  have HU := Lib.hid hu
  have H1 := Lib.hid h1
  have H2 := Lib.hid h2
  have HN := Lib.hid hn
  have HW := Lib.hid hw
  have HS0 := Lib.hid ((Blk.new w [.int .i64 3, .bool false, .int .u64 n, .string ⟨#[]⟩, .int .i64 0, .slice ka 0 kc] 48).alloc (.cells #[.nilIface] 29))
  have HE0 := Lib.hid (Blk.new1 w (.cells [.int .i64 3, .bool false, .int .u64 n, .string ⟨#[]⟩, .int .i64 0, .slice ka 0 kc].toArray 48) [.nilIface] 29)
  have hb := hM.blk.lt
  clear hM hu hw h1 h2 hn hf
  by_cases hz : Fl.rung n = 0
  · have hz' : (FloatKind.f64.format.order n 0 == some .eq) = true := by rw [show FloatKind.f64.format = Ieee.double from rfl, Fl.isZero_iff]; simpa using hz
    have HV : Hid (normB n = 0) := by unfold Hid normB; rw [if_pos hz]
    clear hz
    go_enter_defers Tryz.func41, Tryz.ntmps41
    unfold StpV
    go_wp2_with (first
      | (go_at_call 71; refine (node_used 3 false n ⟨#[]⟩ 0 ka 0 kc _).mono ?_; rintro e w1 ⟨rfl, hg1⟩; rw [HU.out]; have HS1 := Lib.hid (HS0.out.kept hg1 (by simp)); have HE1 := Lib.hid (HE0.out.kept hg1 (by simp)); obtain ⟨s1a, s1b, s10, s11, s12, s13, s14, s15⟩ := Blk.cells6 HS1.out; obtain ⟨e1a, e1b, e10⟩ := Blk.cells1 HE1.out)
      | (go_at_call 70; refine (node_refuse_ok _ _).mono ?_; rintro e w3 ⟨rfl, rfl⟩)
      | (go_at_call 74; refine (math_IsNaN' n _).mono ?_; rintro e w3 ⟨rfl, rfl⟩; rw [H1.out])
      | (go_at_call 75; refine (math_IsInf' n HN.out _).mono ?_; rintro e w3 ⟨rfl, rfl⟩; rw [H2.out])
      | (go_at_call 72; have hM2 := Lib.hid (HMk.out.kept ((((Chg.refl w []).alloc _).alloc _).trans hg1)); refine (node_put_ok F T (.num (normB n)) _ b sv l vs _ hM2.out (by simp only [ItemAt]; rw [HV.out]) HW.out hl).mono ?_; rintro e w4 ⟨rfl, hP⟩; have HP := Lib.hid hP; clear hP; have HE4 := Lib.hid (HE1.out.kept HP.out.chg (HMk.out.newNotIn (w.heap.size + 1) (by omega))); obtain ⟨e4a, e4b, e40⟩ := Blk.cells1 HE4.out))
    refine leaves_cons (f := 69) (args := #[.pointer (some ⟨w.heap.size + 1, 0, none⟩)]) (by simp) (by simp [go_sem]) ?_
    refine (catch_idle ⟨w.heap.size + 1, 0, none⟩ _).mono ?_
    rintro e u' w'' ⟨rfl, rfl, rfl⟩
    have e50 : (w4.setCell ⟨w.heap.size + 1, 0, none⟩ .nilIface).cell? ⟨w.heap.size + 1, 0, none⟩ = some .nilIface := (HE4.out.set 0 _).cell 0
    simp [Leaves, settle, results, Tryz.results41, go_sem, e50]
    exact DoPost.done ((((Chg.refl w []).alloc _).alloc _).trans hg1) HP.out (fun _ h => h) (fun _ h _ => h) hb (fun g hg => HMk.out.lst.lt hg) _ (by omega) e1a (fun hf => by have := HMk.out.lt _ hf; omega) _
  · have hz' : (FloatKind.f64.format.order n 0 == some .eq) = false := by rw [show FloatKind.f64.format = Ieee.double from rfl, Fl.isZero_iff]; simpa using hz
    have HV : Hid (normB n = n) := by unfold Hid normB; rw [if_neg hz]
    clear hz
    go_enter_defers Tryz.func41, Tryz.ntmps41
    unfold StpV
    go_wp2_with (first
      | (go_at_call 71; refine (node_used 3 false n ⟨#[]⟩ 0 ka 0 kc _).mono ?_; rintro e w1 ⟨rfl, hg1⟩; rw [HU.out]; have HS1 := Lib.hid (HS0.out.kept hg1 (by simp)); have HE1 := Lib.hid (HE0.out.kept hg1 (by simp)); obtain ⟨s1a, s1b, s10, s11, s12, s13, s14, s15⟩ := Blk.cells6 HS1.out; obtain ⟨e1a, e1b, e10⟩ := Blk.cells1 HE1.out)
      | (go_at_call 70; refine (node_refuse_ok _ _).mono ?_; rintro e w3 ⟨rfl, rfl⟩)
      | (go_at_call 74; refine (math_IsNaN' n _).mono ?_; rintro e w3 ⟨rfl, rfl⟩; rw [H1.out])
      | (go_at_call 75; refine (math_IsInf' n HN.out _).mono ?_; rintro e w3 ⟨rfl, rfl⟩; rw [H2.out])
      | (go_at_call 72; have hM2 := Lib.hid (HMk.out.kept ((((Chg.refl w []).alloc _).alloc _).trans hg1)); refine (node_put_ok F T (.num (normB n)) _ b sv l vs _ hM2.out (by simp only [ItemAt]; rw [HV.out]) HW.out hl).mono ?_; rintro e w4 ⟨rfl, hP⟩; have HP := Lib.hid hP; clear hP; have HE4 := Lib.hid (HE1.out.kept HP.out.chg (HMk.out.newNotIn (w.heap.size + 1) (by omega))); obtain ⟨e4a, e4b, e40⟩ := Blk.cells1 HE4.out))
    refine leaves_cons (f := 69) (args := #[.pointer (some ⟨w.heap.size + 1, 0, none⟩)]) (by simp) (by simp [go_sem]) ?_
    refine (catch_idle ⟨w.heap.size + 1, 0, none⟩ _).mono ?_
    rintro e u' w'' ⟨rfl, rfl, rfl⟩
    have e50 : (w4.setCell ⟨w.heap.size + 1, 0, none⟩ .nilIface).cell? ⟨w.heap.size + 1, 0, none⟩ = some .nilIface := (HE4.out.set 0 _).cell 0
    simp [Leaves, settle, results, Tryz.results41, go_sem, e50]
    exact DoPost.done ((((Chg.refl w []).alloc _).alloc _).trans hg1) HP.out (fun _ h => h) (fun _ h _ => h) hb (fun g hg => HMk.out.lst.lt hg) _ (by omega) e1a (fun hf => by have := HMk.out.lt _ hf; omega) _
end Go.Proofs.YtfdhgakalojahaaGreatDoor

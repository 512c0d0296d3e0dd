/- WALKS: the program's layer 10: a number or a text that is refused, a list of too few, an object that is refused. PLAIN: how many letters and keys steps have; weak bounds of what comes in. WALKS: the reference's layer 10: members in the rising order of their keys. -/
import Derived.Test.YtfdhgakalojahaaGreatDoorM36
import Derived.Test.YtfdhgakalojahaaGreatDoorM28
import Derived.Test.YtfdhgakalojahaaGreatDoorM35
set_option linter.unusedSimpArgs false
set_option linter.unusedVariables false
set_option linter.unnecessarySimpa false
set_option linter.unusedSectionVars false
namespace Go.Proofs.YtfdhgakalojahaaGreatDoor
open Go Go.RowKit Tree

set_option maxRecDepth 100000 in
set_option maxHeartbeats 2000000 in
theorem node_do_num_no (b : Nat) (n : Nat) (keys : Value) (w : World) (hk : ∃ ka kc, keys = .slice ka 0 kc) (hn : n < 18446744073709551616) (hf : Fl.finB n = false) :
    Calls Tryz.prog 41 #[.pointer (some ⟨b, 0, none⟩), StpV 3 false n ⟨#[]⟩ 0 keys] w (NoPost w) := by
  obtain ⟨ka, kc, rfl⟩ := hk
  have hmf : ∀ (fn : Fn) (first cap : Array Value) (w : World), (Instr.makeFunc fn first cap).run Tryz.prog w = .ok (.func fn first cap) w := fun _ _ _ _ => rfl
  have hfb := run_frombits
  have hu : usedB 3 false n ⟨#[]⟩ 0 0 = true := by unfold usedB; simp
  have HU := Lib.hid hu
  have HN := Lib.hid hn
  have HS0 := Lib.hid ((Blk.new w [.int .i64 3, .bool false, .int .u64 n, .string ⟨#[]⟩, .int .i64 0, .slice ka 0 kc] 48).alloc (.cells #[.nilIface] 29))
  have HE0 := Lib.hid (Blk.new1 w (.cells [.int .i64 3, .bool false, .int .u64 n, .string ⟨#[]⟩, .int .i64 0, .slice ka 0 kc].toArray 48) [.nilIface] 29)
  have hge : ¬ Fl.rung n < 9218868437227405312 := by unfold Fl.finB at hf; simpa using hf
  by_cases hq : 9218868437227405312 < Fl.rung n
  · have H1 : Hid (decide (9218868437227405312 < Fl.rung n) = true) := Lib.hid (by simp [hq])
    clear hu hn hf hge hq
    go_enter_defers Tryz.func41, Tryz.ntmps41
    unfold StpV
    go_wp2_with (first
      | (go_at_call 71; refine (node_used 3 false n ⟨#[]⟩ 0 ka 0 kc _).mono ?_; rintro e w1 ⟨rfl, hg1⟩; rw [HU.out]; have HS1 := Lib.hid (HS0.out.kept hg1 (by simp)); have HE1 := Lib.hid (HE0.out.kept hg1 (by simp)); obtain ⟨s1a, s1b, s10, s11, s12, s13, s14, s15⟩ := Blk.cells6 HS1.out; obtain ⟨e1a, e1b, e10⟩ := Blk.cells1 HE1.out)
      | (go_at_call_of 70 (Value.bool true); refine (node_refuse_ok _ _).mono ?_; rintro e w3 ⟨rfl, rfl⟩)
      | (go_at_call 70; refine (node_refuse_no _ _).mono ?_; rintro e w3 ⟨rfl, rfl⟩)
      | (go_at_call 74; refine (math_IsNaN' n _).mono ?_; rintro e w3 ⟨rfl, rfl⟩; rw [H1.out]))
    exact do_caught w w1 _ _ (w.heap.size + 1) rfl rfl HE1.out ((((Chg.refl w []).alloc _).alloc _).trans hg1) (by omega)
  · have H1 : Hid (decide (9218868437227405312 < Fl.rung n) = false) := Lib.hid (by simp; omega)
    have H2 : Hid (decide (Fl.rung n = 9218868437227405312) = true) := Lib.hid (by simp; omega)
    clear hu hn hf hge hq
    go_enter_defers Tryz.func41, Tryz.ntmps41
    unfold StpV
    go_wp2_with (first
      | (go_at_call 71; refine (node_used 3 false n ⟨#[]⟩ 0 ka 0 kc _).mono ?_; rintro e w1 ⟨rfl, hg1⟩; rw [HU.out]; have HS1 := Lib.hid (HS0.out.kept hg1 (by simp)); have HE1 := Lib.hid (HE0.out.kept hg1 (by simp)); obtain ⟨s1a, s1b, s10, s11, s12, s13, s14, s15⟩ := Blk.cells6 HS1.out; obtain ⟨e1a, e1b, e10⟩ := Blk.cells1 HE1.out)
      | (go_at_call_of 70 (Value.bool true); refine (node_refuse_ok _ _).mono ?_; rintro e w3 ⟨rfl, rfl⟩)
      | (go_at_call 70; refine (node_refuse_no _ _).mono ?_; rintro e w3 ⟨rfl, rfl⟩)
      | (go_at_call 74; refine (math_IsNaN' n _).mono ?_; rintro e w3 ⟨rfl, rfl⟩; rw [H1.out])
      | (go_at_call 75; refine (math_IsInf' n HN.out _).mono ?_; rintro e w3 ⟨rfl, rfl⟩; rw [H2.out]))
    exact do_caught w w1 _ _ (w.heap.size + 1) rfl rfl HE1.out ((((Chg.refl w []).alloc _).alloc _).trans hg1) (by omega)

set_option maxRecDepth 100000 in
set_option maxHeartbeats 2000000 in
theorem node_do_text_no (b : Nat) (s : ByteArray) (keys : Value) (w : World) (hk : ∃ ka kc, keys = .slice ka 0 kc) (hs : s.size ≤ 2147483648) (hr : Utf.rightB s = false ∨ (szT (.text s)).within = false) :
    Calls Tryz.prog 41 #[.pointer (some ⟨b, 0, none⟩), StpV 4 false 0 s 0 keys] w (NoPost w) := by
  obtain ⟨ka, kc, rfl⟩ := hk
  have hmf : ∀ (fn : Fn) (first cap : Array Value) (w : World), (Instr.makeFunc fn first cap).run Tryz.prog w = .ok (.func fn first cap) w := fun _ _ _ _ => rfl
  have hu : usedB 4 false 0 s 0 0 = true := by unfold usedB; simp
  have HU := Lib.hid hu
  have HS0 := Lib.hid ((Blk.new w [.int .i64 4, .bool false, .int .u64 0, .string s, .int .i64 0, .slice ka 0 kc] 48).alloc (.cells #[.nilIface] 29))
  have HE0 := Lib.hid (Blk.new1 w (.cells [.int .i64 4, .bool false, .int .u64 0, .string s, .int .i64 0, .slice ka 0 kc].toArray 48) [.nilIface] 29)
  by_cases hr0 : Utf.rightB s = true
  · have hw : (szT (.text s)).within = false := hr.resolve_left (by simp [hr0])
    have HR := Lib.hid hr0
    have HW := Lib.hid hw
    clear hu hr hr0 hw
    go_enter_defers Tryz.func41, Tryz.ntmps41
    unfold StpV
    go_wp2_with (first
      | (go_at_call 71; refine (node_used 4 false 0 s 0 ka 0 kc _).mono ?_; rintro e w1 ⟨rfl, hg1⟩; rw [HU.out]; have HS1 := Lib.hid (HS0.out.kept hg1 (by simp)); have HE1 := Lib.hid (HE0.out.kept hg1 (by simp)); obtain ⟨s1a, s1b, s10, s11, s12, s13, s14, s15⟩ := Blk.cells6 HS1.out; obtain ⟨e1a, e1b, e10⟩ := Blk.cells1 HE1.out)
      | (go_at_call 70; refine (node_refuse_ok _ _).mono ?_; rintro e w3 ⟨rfl, rfl⟩)
      | (go_at_call 54; refine (utf_Right s _ hs).mono ?_; rintro e w2 ⟨rfl, hg2⟩; rw [HR.out]; have HS2 := Lib.hid (HS1.out.kept hg2 (by simp)); have HE2 := Lib.hid (HE1.out.kept hg2 (by simp)); obtain ⟨s2a, s2b, s20, s21, s22, s23, s24, s25⟩ := Blk.cells6 HS2.out; obtain ⟨e2a, e2b, e20⟩ := Blk.cells1 HE2.out)
      | (go_at_call 72; go_loud (refine (node_put_no (fun _ => False) (.text s) _ b _ (by simp only [ItemAt]) HW.out).mono ?_; rintro e w4 ⟨rfl, hg4⟩; have HE4 := Lib.hid (HE2.out.kept hg4 (by simp)))))
    exact do_caught w w4 _ _ (w.heap.size + 1) rfl rfl HE4.out (((((Chg.refl w []).alloc _).alloc _).trans (hg1.trans hg2)).trans hg4) (by omega)
  · have hr1 : Utf.rightB s = false := by simpa using hr0
    have HR := Lib.hid hr1
    clear hu hr hr0 hr1
    go_enter_defers Tryz.func41, Tryz.ntmps41
    unfold StpV
    go_wp2_with (first
      | (go_at_call 71; refine (node_used 4 false 0 s 0 ka 0 kc _).mono ?_; rintro e w1 ⟨rfl, hg1⟩; rw [HU.out]; have HS1 := Lib.hid (HS0.out.kept hg1 (by simp)); have HE1 := Lib.hid (HE0.out.kept hg1 (by simp)); obtain ⟨s1a, s1b, s10, s11, s12, s13, s14, s15⟩ := Blk.cells6 HS1.out; obtain ⟨e1a, e1b, e10⟩ := Blk.cells1 HE1.out)
      | (go_at_call_of 70 (Value.bool true); refine (node_refuse_ok _ _).mono ?_; rintro e w3 ⟨rfl, rfl⟩)
      | (go_at_call 70; refine (node_refuse_no _ _).mono ?_; rintro e w3 ⟨rfl, rfl⟩)
      | (go_at_call 54; refine (utf_Right s _ hs).mono ?_; rintro e w2 ⟨rfl, hg2⟩; rw [HR.out]; have HS2 := Lib.hid (HS1.out.kept hg2 (by simp)); have HE2 := Lib.hid (HE1.out.kept hg2 (by simp)); obtain ⟨s2a, s2b, s20, s21, s22, s23, s24, s25⟩ := Blk.cells6 HS2.out; obtain ⟨e2a, e2b, e20⟩ := Blk.cells1 HE2.out))
    exact do_caught w w2 _ _ (w.heap.size + 1) rfl rfl HE2.out ((((Chg.refl w []).alloc _).alloc _).trans (hg1.trans hg2)) (by omega)

set_option maxRecDepth 100000 in
set_option maxHeartbeats 2000000 in
theorem node_do_list_few (F : Nat → Prop) (T : TypeId) (b : Nat) (sv : Value) (l : List Tr) (vs : List Value) (n : Int) (keys : Value) (w : World) (hM : MkAt w F T b sv l vs) (hk : ∃ ka kc, keys = .slice ka 0 kc) (hn : (l.length : Int) < n) :
    Calls Tryz.prog 41 #[.pointer (some ⟨b, 0, none⟩), StpV 5 false 0 ⟨#[]⟩ n keys] w (NoPost w) := by
  obtain ⟨ka, kc, rfl⟩ := hk
  have hmf : ∀ (fn : Fn) (first cap : Array Value) (w : World), (Instr.makeFunc fn first cap).run Tryz.prog w = .ok (.func fn first cap) w := fun _ _ _ _ => rfl
  have hu : usedB 5 false 0 ⟨#[]⟩ n 0 = true := by unfold usedB; simp; omega
  have HMk := Lib.hid hM
  have HU := Lib.hid hu
  have HS0 := Lib.hid ((Blk.new w [.int .i64 5, .bool false, .int .u64 0, .string ⟨#[]⟩, .int .i64 n, .slice ka 0 kc] 48).alloc (.cells #[.nilIface] 29))
  have HE0 := Lib.hid (Blk.new1 w (.cells [.int .i64 5, .bool false, .int .u64 0, .string ⟨#[]⟩, .int .i64 n, .slice ka 0 kc].toArray 48) [.nilIface] 29)
  clear hM hu
  go_enter_defers Tryz.func41, Tryz.ntmps41
  unfold StpV
  go_wp2_with (first
    | (go_at_call 71; refine (node_used 5 false 0 ⟨#[]⟩ n ka 0 kc _).mono ?_; rintro e w1 ⟨rfl, hg1⟩; rw [HU.out]; have HS1 := Lib.hid (HS0.out.kept hg1 (by simp)); have HE1 := Lib.hid (HE0.out.kept hg1 (by simp)); obtain ⟨s1a, s1b, s10, s11, s12, s13, s14, s15⟩ := Blk.cells6 HS1.out; obtain ⟨e1a, e1b, e10⟩ := Blk.cells1 HE1.out)
    | (go_at_call 70; refine (node_refuse_ok _ _).mono ?_; rintro e w3 ⟨rfl, rfl⟩)
    | (go_at_call 76; go_loud (have HM1 := Lib.hid (HMk.out.kept ((((Chg.refl w []).alloc _).alloc _).trans hg1)); refine (node_take_no F T b sv l vs _ HM1.out n hn).mono ?_; rintro e w5 ⟨rfl, hg5⟩; have HE5 := Lib.hid (HE1.out.kept hg5 (by simp)))))
  exact do_caught w w5 _ _ (w.heap.size + 1) rfl rfl HE5.out (((((Chg.refl w []).alloc _).alloc _).trans hg1).trans hg5) (by omega)

set_option maxRecDepth 100000 in
set_option maxHeartbeats 2000000 in
theorem node_do_obj_no (b : Nat) (ka : Option Addr) (kn kc : Nat) (w : World) (hO : ∀ wx, Chg w wx [] → Calls Tryz.prog 79 #[.pointer (some ⟨b, 0, none⟩), .slice ka kn kc] wx (ObjNo wx)) :
    Calls Tryz.prog 41 #[.pointer (some ⟨b, 0, none⟩), StpV 6 false 0 ⟨#[]⟩ 0 (.slice ka kn kc)] w (NoPost w) := by
  have hmf : ∀ (fn : Fn) (first cap : Array Value) (w : World), (Instr.makeFunc fn first cap).run Tryz.prog w = .ok (.func fn first cap) w := fun _ _ _ _ => rfl
  have hu : usedB 6 false 0 ⟨#[]⟩ 0 kn = true := by unfold usedB; simp
  have HU := Lib.hid hu
  have HO := Lib.hid hO
  have HS0 := Lib.hid ((Blk.new w [.int .i64 6, .bool false, .int .u64 0, .string ⟨#[]⟩, .int .i64 0, .slice ka kn kc] 48).alloc (.cells #[.nilIface] 29))
  have HE0 := Lib.hid (Blk.new1 w (.cells [.int .i64 6, .bool false, .int .u64 0, .string ⟨#[]⟩, .int .i64 0, .slice ka kn kc].toArray 48) [.nilIface] 29)
  clear hu hO
  go_enter_defers Tryz.func41, Tryz.ntmps41
  unfold StpV
  go_wp2_with (first
    | (go_at_call 71; refine (node_used 6 false 0 ⟨#[]⟩ 0 ka kn kc _).mono ?_; rintro e w1 ⟨rfl, hg1⟩; rw [HU.out]; have HS1 := Lib.hid (HS0.out.kept hg1 (by simp)); have HE1 := Lib.hid (HE0.out.kept hg1 (by simp)); obtain ⟨s1a, s1b, s10, s11, s12, s13, s14, s15⟩ := Blk.cells6 HS1.out; obtain ⟨e1a, e1b, e10⟩ := Blk.cells1 HE1.out)
    | (go_at_call 70; refine (node_refuse_ok _ _).mono ?_; rintro e w3 ⟨rfl, rfl⟩)
    | (go_at_call 79; go_loud (refine (HO.out _ ((((Chg.refl w []).alloc _).alloc _).trans hg1)).mono ?_; rintro e w5 ⟨⟨n5, rfl⟩, hg5⟩; have HE5 := Lib.hid (HE1.out.kept hg5 (by simp)))))
  exact do_caught w w5 _ _ (w.heap.size + 1) rfl rfl HE5.out (((((Chg.refl w []).alloc _).alloc _).trans hg1).trans hg5) (by omega)
end Go.Proofs.YtfdhgakalojahaaGreatDoor

namespace Go.Proofs.YtfdhgakalojahaaGreatDoor
open Go Go.RowKit Tree

/-- bounds of a step by the form's reach -/
structure StepW (s : StepI) : Prop where
  bits : s.bits < 18446744073709551616
  text : s.text.size ≤ 140737488355328
  keys : s.keys.length ≤ 140737488355328
  size : ∀ k ∈ s.keys, k.size ≤ 140737488355328
  count : -9223372036854775808 ≤ s.count ∧ s.count ≤ 9223372036854775807

/-- what a step counts -/
def totS (s : StepI) : Nat := 1 + s.text.size + s.keys.length + bytesOf s.keys
def tot (l : List StepI) : Nat := (l.map totS).sum

theorem tot_take_succ {l : List StepI} {i : Nat} {s : StepI} (h : l[i]? = some s) : tot (l.take (i + 1)) = tot (l.take i) + totS s := by
  unfold tot
  rw [List.take_add_one, h]
  simp

theorem tot_len (l : List StepI) : l.length ≤ tot l := by
  induction l with
  | nil => simp [tot]
  | cons s l ih => unfold tot at *; simp only [List.map_cons, List.sum_cons, List.length_cons]; have : 1 ≤ totS s := by unfold totS; omega
                   omega

theorem tot_mem {l : List StepI} {s : StepI} (h : s ∈ l) : totS s ≤ tot l := by
  induction l with
  | nil => cases h
  | cons x l ih =>
    unfold tot at *
    simp only [List.map_cons, List.sum_cons]
    rcases List.mem_cons.1 h with rfl | h
    · omega
    · have := ih h; omega

theorem bytesOf_mem {ks : List ByteArray} {k : ByteArray} (h : k ∈ ks) : k.size ≤ bytesOf ks := by
  unfold bytesOf
  induction ks with
  | nil => cases h
  | cons x l ih =>
    simp only [List.map_cons, List.sum_cons]
    rcases List.mem_cons.1 h with rfl | h
    · omega
    · have := ih h; omega

/-- steps that are not beyond the law's bound are as the contracts want them -/
theorem stepB_of {l : List StepI} (hw : ∀ s ∈ l, StepW s) (h : tot l < 2147483648) : ∀ s ∈ l, StepB s := fun s hs => by
  have h1 := tot_mem hs
  have h2 := hw s hs
  unfold totS at h1
  exact ⟨h2.bits, by omega, by omega, fun k hk => by have := bytesOf_mem hk; omega, by omega, h2.count⟩
end Go.Proofs.YtfdhgakalojahaaGreatDoor

namespace Go.Proofs.YtfdhgakalojahaaGreatDoor
open Go Go.RowKit Tree

theorem cells_new' (w : World) (cs : List Value) (T : TypeId) : ∀ j v, cs[j]? = some v → (w.alloc (.cells cs.toArray T)).cell? ⟨w.heap.size, j, none⟩ = some v := fun j v hv => by
  rw [(Blk.new w cs T).cell, hv]

def OrderedPost (l : List Mem) (w : World) (e : Ending) (w' : World) : Prop :=
  (∃ v, e = .returned v ∧ RowC w' v 7 l.length (mems (srt Prod.fst l))) ∧ Chg w w' []

set_option maxRecDepth 100000 in
set_option maxHeartbeats 8000000 in
theorem r10_ordered (N : Nat) : ∀ (l : List Mem) (sl : Value) (w : World), l.length ≤ N → RowC w sl 7 l.length (mems l) → (∀ p ∈ l, MemOK p) → (l.map Prod.fst).Nodup → l.length ≤ 4294967296 →
    Calls Tryz.prog 101 #[sl] w (OrderedPost l w) := by
  induction N using Nat.strongRecOn with
  | _ N ih => ?_
  intro ks sl w hN hR hk hnd hl
  obtain ⟨a, c, rfl, hac, _⟩ := hR.form
  have HR := Lib.hid hR
  have HK := Lib.hid hk
  have HIH := Lib.hid ih
  have HND := Lib.hid hnd
  clear hR hk ih hnd
  by_cases hs : ks.length < 2
  · have hsort : srt Prod.fst ks = ks := by
      match ks, hs with
      | [], _ => exact srt_nil _
      | [x], _ => exact srt_one _ x
    have HS := Lib.hid hsort
    clear hsort
    have hs' : (ks.length : Int) < 2 := by omega
    go_enter Tryz.func101, Tryz.ntmps101
    go_wp2_with fail
    go_ret
    exact ⟨⟨_, rfl, by rw [HS.out]; exact HR.out⟩, Chg.refl _ _⟩
  · obtain ⟨b, o, rfl, _⟩ := HR.out.base (by omega) (by decide)
    have hd1 : (ks.length : Int) / 2 = ((ks.length / 2 : Nat) : Int) := by omega
    obtain ⟨h, hh⟩ : ∃ h, h = ks.length / 2 := ⟨_, rfl⟩
    rw [← hh] at hd1
    have hh1 : h < ks.length := by omega
    have hh2 : 1 ≤ h := by omega
    have hRL := HR.out.head h (by omega)
    have hRR := HR.out.tail h (ks.length - h) (c - h) (by omega) (by omega)
    rw [mems_take HK.out] at hRL
    rw [mems_drop HK.out] at hRR
    simp only [Option.map_some, add_lit] at hRR
    have hln : (ks.take h).length = h := by rw [List.length_take]; omega
    have hrn : (ks.drop h).length = ks.length - h := by rw [List.length_drop]
    have HIL : Hid (∀ w', Chg w w' [] → Calls Tryz.prog 101 #[.slice (some ⟨b, o, none⟩) h c] w' (OrderedPost (ks.take h) w')) := fun w' hc =>
      HIH.out h (by omega) (ks.take h) _ w' (by omega) (by rw [hln]; exact hRL.kept hc) (fun s hs => HK.out s (List.mem_of_mem_take hs)) (by rw [List.map_take]; exact HND.out.sublist (List.take_sublist _ _)) (by omega)
    have HIR : Hid (∀ w', Chg w w' [] → Calls Tryz.prog 101 #[.slice (some ⟨b, o + h * 7, none⟩) (ks.length - h) (c - h)] w' (OrderedPost (ks.drop h) w')) := fun w' hc =>
      HIH.out (ks.length - h) (by omega) (ks.drop h) _ w' (by omega) (by rw [hrn]; exact hRR.kept hc) (fun s hs => HK.out s (List.mem_of_mem_drop hs)) (by rw [List.map_drop]; exact HND.out.sublist (List.drop_sublist _ _)) (by omega)
    have hinj : ∀ a ∈ ks.take h ++ ks.drop h, ∀ b ∈ ks.take h ++ ks.drop h, a.1 = b.1 → a = b := by
      rw [List.take_append_drop]
      intro a ha b hb e
      obtain ⟨i, hi, rfl⟩ := List.mem_iff_getElem.1 ha
      obtain ⟨j, hj, rfl⟩ := List.mem_iff_getElem.1 hb
      have := (List.getElem?_inj (l := ks.map Prod.fst) (j := j) (by simpa using hi) HND.out).1 (by simp [hi, hj, e])
      subst this; rfl
    have HS : Hid (List.merge (srt Prod.fst (ks.take h)) (srt Prod.fst (ks.drop h)) (leK Prod.fst) = srt Prod.fst ks) := by unfold Hid; rw [srt_merge _ _ _ hinj, List.take_append_drop]
    have HSL : Hid ((srt Prod.fst (ks.take h)).length = h ∧ (srt Prod.fst (ks.drop h)).length = ks.length - h) := by unfold Hid; rw [srt_length, srt_length, hln, hrn]; exact ⟨rfl, rfl⟩
    have HMA : Hid (∀ s ∈ srt Prod.fst (ks.take h), MemOK s) := fun s hs => HK.out s (List.mem_of_mem_take ((srt_mem Prod.fst).1 hs))
    have HMB : Hid (∀ s ∈ srt Prod.fst (ks.drop h), MemOK s) := fun s hs => HK.out s (List.mem_of_mem_drop ((srt_mem Prod.fst).1 hs))
    have HLN := Lib.hid hln
    have HRN := Lib.hid hrn
    clear hRL hRR hln hrn hh hs hinj
    have q1 : h ≤ c := by omega
    have q2 : (h : Int) ≤ (c : Int) := by omega
    have q3 : ¬ c = h := by omega
    have q4 : h < c := by omega
    have z1 : IntKind.i64.wrap (h : Int) = (h : Int) := IntWalk.i64_in _ (by omega)
    have z2 : (0 : Int) ≤ (h : Int) := by omega
    have q5 : (h : Int) ≤ (ks.length : Int) := by omega
    go_enter Tryz.func101, Tryz.ntmps101
    go_upto_region 3 with (fail)
    go_cut [3, 4] from 10 to 21 (fun s3 s4 wx => RowC wx s3 7 h (mems (srt Prod.fst (ks.take h))) ∧ RowC wx s4 7 (ks.length - h) (mems (srt Prod.fst (ks.drop h))) ∧ Chg w wx [])
    case first =>
      go_region_with (first
        | (go_at_call_of 101 (Value.slice (some ⟨b, o, none⟩) h c); refine (HIL.out _ (by first | exact (Chg.refl w []).drew | exact ((Chg.refl w []).drew).trans hg2)).mono ?_; rintro e w1 ⟨⟨v1, rfl, hL1⟩, hg1⟩; rw [HLN.out] at hL1)
        | (go_at_call 101; refine (HIR.out _ (by first | exact (Chg.refl w []).drew | exact ((Chg.refl w []).drew).trans hg1)).mono ?_; rintro e w2 ⟨⟨v2, rfl, hL2⟩, hg2⟩; rw [HRN.out] at hL2))
      all_goals (go_wp2_with fail; go_meet)
      all_goals first
        | exact ⟨hL1.kept hg2, hL2, (((Chg.refl w []).drew).trans hg1).trans hg2⟩
        | exact ⟨hL1, hL2.kept hg1, (((Chg.refl w []).drew).trans hg2).trans hg1⟩
    case rest =>
      obtain ⟨hR1, hR2, hg⟩ := hcut
      have HG := Lib.hid hg
      obtain ⟨wb, hwb⟩ : ∃ x, x = wc := ⟨_, rfl⟩
      rw [← hwb] at HG hR1 hR2 ⊢
      obtain ⟨A, hA⟩ : ∃ A, A = srt Prod.fst (ks.take h) := ⟨_, rfl⟩
      obtain ⟨B, hB⟩ : ∃ B, B = srt Prod.fst (ks.drop h) := ⟨_, rfl⟩
      rw [← hA] at hR1 HS HMA HSL
      rw [← hB] at hR2 HS HMB HSL
      clear hg hwb hA hB HIL HIR HLN HRN
      obtain ⟨a3, c3, rfl, hac3, _⟩ := hR1.form
      obtain ⟨a4, c4, rfl, hac4, _⟩ := hR2.form
      have HR1 := Lib.hid hR1
      have HR2 := Lib.hid hR2
      clear hR1 hR2
      go_wp2_with fail
      go_loopw [3, 4, 5] (fun v3 v4 v5 wr => ∃ (X Y out : List Mem), RowC wb v3 7 X.length (mems X) ∧ RowC wb v4 7 Y.length (mems Y) ∧ LstK wr v5 191 7 out.length (mems out) ∧ Chg wb wr [] ∧ (∀ g, v5.ownBlock = some g → wb.heap.size ≤ g) ∧
          out ++ List.merge X Y (leK Prod.fst) = srt Prod.fst ks ∧ X.length + Y.length + out.length = ks.length ∧ (∀ s ∈ X, MemOK s) ∧ (∀ s ∈ Y, MemOK s)) (fun v3 v4 _ _ => slen v3 + slen v4)
      case atStart => exact ⟨A, B, [], by rw [HSL.out.1]; exact HR1.out, by rw [HSL.out.2]; exact HR2.out, LstK.nil _ _ _, Chg.refl _ _, fun g hg => (by cases hg), HS.out, by rw [HSL.out.1, HSL.out.2]; simp; omega, HMA.out, HMB.out⟩
      case round =>
        obtain ⟨wa, rfl⟩ : ∃ x, x = wr := ⟨_, rfl⟩
        obtain ⟨X, Y, out, hX, hY, hO, hg, ho, hm, hlen, hkx, hky⟩ := hrel
        obtain ⟨a5, c5, rfl, hac5, _⟩ := hX.form
        obtain ⟨a6, c6, rfl, hac6, _⟩ := hY.form
        have HX := Lib.hid hX
        have HY := Lib.hid hY
        have HO := Lib.hid hO
        have HGa := Lib.hid hg
        have HOw := Lib.hid ho
        have HM := Lib.hid hm
        have HKX := Lib.hid hkx
        have HKY := Lib.hid hky
        clear hX hY hO hg ho hm hkx hky
        match X, Y with
        | [], [] =>
          have hfin : out = srt Prod.fst ks := by have := HM.out; simpa using this
          have HF := Lib.hid hfin
          have HLO : Hid (out.length = ks.length) := Lib.hid (by simpa using hlen)
          clear hfin
          go_wp2_with fail
          go_ret
          refine ⟨⟨_, rfl, ?_⟩, HG.out.trans HGa.out⟩
          have h1 := HO.out.rowC (mems_length (fun p hp => HK.out p ((srt_mem Prod.fst).1 (HF.out ▸ hp))))
          rw [HLO.out, HF.out] at h1
          exact h1
        | [], y :: Y' =>
          have HM2 : Hid (out ++ [y] ++ List.merge [] Y' (leK Prod.fst) = srt Prod.fst ks) := by unfold Hid; rw [← HM.out, merge_nil_l, merge_nil_l]; simp
          obtain ⟨b6, o6, rfl, hc6⟩ := HY.out.base (by simp) (by decide)
          have HRY : Hid (wa.rangeAt b6 o6 (memC y)) := fun j v hv => HGa.out.keeps (hc6 j v (by rw [mems_cons, List.getElem?_append_left (List.getElem?_eq_some_iff.1 hv).1]; exact hv))
          have HIY : Hid ((Tryz.prog.info? 191).map (·.size) = some (memC y).length) := by unfold Hid; rw [(HKY.out y (by simp)).length]; exact info_mems
          obtain ⟨kY, soY, flY, biY, txY, laY, lnY, lcY, kaY, knY, kcY, eY⟩ := HKY.out y (by simp)
          have HYL : Hid (memC y = [.string y.1, .int .i64 soY, .bool flY, .int .u64 biY, .string txY, .slice laY lnY lcY, .slice kaY knY kcY]) := by unfold Hid memC; rw [eY]; rfl
          have HYE : Hid ((memC y).toArray = #[.string y.1, .int .i64 soY, .bool flY, .int .u64 biY, .string txY, .slice laY lnY lcY, .slice kaY knY kcY]) := by unfold Hid; rw [HYL.out]
          have hy0 : wa.cell? ⟨b6, o6, none⟩ = some (.string y.1) := by have := HRY.out 0 (.string y.1) rfl; rwa [Nat.add_zero] at this
          clear eY hc6
          simp only [List.length_nil, List.length_cons] at hlen hac5 hac6 ⊢
          have hlo : out.length ≤ 4294967296 := by omega
          obtain ⟨m, hm⟩ : ∃ m, m = Y'.length + 1 := ⟨_, rfl⟩
          have HYn : Hid (RowC wb (.slice (some ⟨b6, o6, none⟩) m c6) 7 m (memC y ++ mems Y')) := by rw [hm, ← mems_cons]; exact HY.out
          have HYm := Lib.hid hm
          rw [← hm] at hlen hac6 ⊢
          have t1m : ((m : Int) == 0) = false := by rw [beq_eq_false_iff_ne]; omega
          have t2m : (0 : Int) < (m : Int) := by omega
          have t3m : m ≤ 4294967297 := by omega
          have t4m : 0 < m := by omega
          have t5m : decide (0 < m) = true := decide_eq_true t4m
          clear hm
          rcases Decidable.em (c6 = 1) with hc1 | hc1
          all_goals
            go_wp2_with fail
            go_quiet (fail)
            go_wp2_with (first
                | (refine wpList_load_mid rfl _ _ rfl b6 o6 (by rfl) (memC y) _ (by exact HRY.out) Tryz.underlying191 rfl HIY.out ?_; rw [HYE.out])
                | (at_builtin; go_loud (refine wpList_appendK rfl _ _ _ rfl 191 zMem 7 104 (by decide) Tryz.underlying189 info_mem rfl u5 out.length (mems out) (by rfl) (by exact HO.out.kept (bs := []) (by (repeat (first | exact Chg.refl _ _ | with_reducible refine Chg.drewN ?_ _ | with_reducible refine Chg.drew ?_ | with_reducible refine Chg.alloc ?_ _ | with_reducible refine Chg.setCell ?_ _ _ (by simp) | with_reducible refine Chg.setCell ?_ _ _ (by simp; omega)))) (by simp)) wa.heap.size [.string y.1, .int .i64 soY, .bool flY, .int .u64 biY, .string txY, .slice laY lnY lcY, .slice kaY knY kcY] (by rfl) (by rfl) (by exact cells_new' _ _ _) (by intro u hu; simp only [List.mem_cons, List.not_mem_nil, or_false] at hu; rcases hu with rfl | rfl | rfl | rfl | rfl | rfl | rfl <;> rfl) (by omega) (by omega) ?_; intro g cap' w3 hL3 hC3 hG3; rw [← HYL.out] at hL3; have HL3 := Lib.hid hL3; have HC3 := Lib.hid hC3; have HG3 := Lib.hid hG3; clear hL3 hC3 hG3)))
            go_roundw
            case rel =>
              have z1 := HGa.out.size
              have e1 := HYm.out
              refine ⟨[], Y', out ++ [y], HX.out, (by first | (refine HYn.out.nextZ _ ?_ ?_ ?_ ?_ <;> (first | exact (HKY.out y (by simp)).length | omega)) | (refine RowC.nextZNone ?_ ?_ ?_ <;> (first | omega | (rw [mems_length (fun s hs => HKY.out s (by simp [hs]))]; omega)))), (by rw [List.length_append, mems_append, mems_cons, show mems [] = [] from rfl, List.append_nil]; exact HL3.out), Chg.own (sv := .slice none 0 0) (by (repeat (first | exact HGa.out | with_reducible refine Chg.drewN ?_ _ | with_reducible refine Chg.drew ?_ | with_reducible refine Chg.alloc ?_ _ | with_reducible refine Chg.setCell ?_ _ _ (by simp) | with_reducible refine Chg.setCell ?_ _ _ (by simp; omega)))) HC3.out (fun g hg => by cases hg) (fun g hg => .inr (HOw.out g hg)), fun g' hg' => ?_, by rw [← HM2.out], by rw [List.length_append]; simp only [List.length_nil, List.length_cons]; omega, HKX.out, (fun s hs => HKY.out s (by simp [hs]))⟩
              simp [Value.ownBlock] at hg'; subst hg'
              rcases HG3.out with h | h
              · exact HOw.out _ h
              · simp at h; omega
            case measure => simp [slen]; omega
        | x :: X', [] =>
          have HM2 : Hid (out ++ [x] ++ List.merge X' [] (leK Prod.fst) = srt Prod.fst ks) := by unfold Hid; rw [← HM.out, merge_nil_r, merge_nil_r]; simp
          obtain ⟨b5, o5, rfl, hc5⟩ := HX.out.base (by simp) (by decide)
          have HRX : Hid (wa.rangeAt b5 o5 (memC x)) := fun j v hv => HGa.out.keeps (hc5 j v (by rw [mems_cons, List.getElem?_append_left (List.getElem?_eq_some_iff.1 hv).1]; exact hv))
          have HIX : Hid ((Tryz.prog.info? 191).map (·.size) = some (memC x).length) := by unfold Hid; rw [(HKX.out x (by simp)).length]; exact info_mems
          obtain ⟨kX, soX, flX, biX, txX, laX, lnX, lcX, kaX, knX, kcX, eX⟩ := HKX.out x (by simp)
          have HXL : Hid (memC x = [.string x.1, .int .i64 soX, .bool flX, .int .u64 biX, .string txX, .slice laX lnX lcX, .slice kaX knX kcX]) := by unfold Hid memC; rw [eX]; rfl
          have HXE : Hid ((memC x).toArray = #[.string x.1, .int .i64 soX, .bool flX, .int .u64 biX, .string txX, .slice laX lnX lcX, .slice kaX knX kcX]) := by unfold Hid; rw [HXL.out]
          have hx0 : wa.cell? ⟨b5, o5, none⟩ = some (.string x.1) := by have := HRX.out 0 (.string x.1) rfl; rwa [Nat.add_zero] at this
          clear eX hc5
          simp only [List.length_nil, List.length_cons] at hlen hac5 hac6 ⊢
          have hlo : out.length ≤ 4294967296 := by omega
          obtain ⟨m, hm⟩ : ∃ m, m = X'.length + 1 := ⟨_, rfl⟩
          have HXn : Hid (RowC wb (.slice (some ⟨b5, o5, none⟩) m c5) 7 m (memC x ++ mems X')) := by rw [hm, ← mems_cons]; exact HX.out
          have HXm := Lib.hid hm
          rw [← hm] at hlen hac5 ⊢
          have t1m : ((m : Int) == 0) = false := by rw [beq_eq_false_iff_ne]; omega
          have t2m : (0 : Int) < (m : Int) := by omega
          have t3m : m ≤ 4294967297 := by omega
          have t4m : 0 < m := by omega
          have t5m : decide (0 < m) = true := decide_eq_true t4m
          clear hm
          rcases Decidable.em (c5 = 1) with hc1 | hc1
          all_goals
            go_wp2_with fail
            go_quiet (fail)
            go_wp2_with (first
                | (refine wpList_load_mid rfl _ _ rfl b5 o5 (by rfl) (memC x) _ (by exact HRX.out) Tryz.underlying191 rfl HIX.out ?_; rw [HXE.out])
                | (at_builtin; go_loud (refine wpList_appendK rfl _ _ _ rfl 191 zMem 7 104 (by decide) Tryz.underlying189 info_mem rfl u5 out.length (mems out) (by rfl) (by exact HO.out.kept (bs := []) (by (repeat (first | exact Chg.refl _ _ | with_reducible refine Chg.drewN ?_ _ | with_reducible refine Chg.drew ?_ | with_reducible refine Chg.alloc ?_ _ | with_reducible refine Chg.setCell ?_ _ _ (by simp) | with_reducible refine Chg.setCell ?_ _ _ (by simp; omega)))) (by simp)) wa.heap.size [.string x.1, .int .i64 soX, .bool flX, .int .u64 biX, .string txX, .slice laX lnX lcX, .slice kaX knX kcX] (by rfl) (by rfl) (by exact cells_new' _ _ _) (by intro u hu; simp only [List.mem_cons, List.not_mem_nil, or_false] at hu; rcases hu with rfl | rfl | rfl | rfl | rfl | rfl | rfl <;> rfl) (by omega) (by omega) ?_; intro g cap' w3 hL3 hC3 hG3; rw [← HXL.out] at hL3; have HL3 := Lib.hid hL3; have HC3 := Lib.hid hC3; have HG3 := Lib.hid hG3; clear hL3 hC3 hG3)))
            go_roundw
            case rel =>
              have z1 := HGa.out.size
              have e1 := HXm.out
              refine ⟨X', [], out ++ [x], (by first | (refine HXn.out.nextZ _ ?_ ?_ ?_ ?_ <;> (first | exact (HKX.out x (by simp)).length | omega)) | (refine RowC.nextZNone ?_ ?_ ?_ <;> (first | omega | (rw [mems_length (fun s hs => HKX.out s (by simp [hs]))]; omega)))), HY.out, (by rw [List.length_append, mems_append, mems_cons, show mems [] = [] from rfl, List.append_nil]; exact HL3.out), Chg.own (sv := .slice none 0 0) (by (repeat (first | exact HGa.out | with_reducible refine Chg.drewN ?_ _ | with_reducible refine Chg.drew ?_ | with_reducible refine Chg.alloc ?_ _ | with_reducible refine Chg.setCell ?_ _ _ (by simp) | with_reducible refine Chg.setCell ?_ _ _ (by simp; omega)))) HC3.out (fun g hg => by cases hg) (fun g hg => .inr (HOw.out g hg)), fun g' hg' => ?_, by rw [← HM2.out], by rw [List.length_append]; simp only [List.length_nil, List.length_cons]; omega, (fun s hs => HKX.out s (by simp [hs])), HKY.out⟩
              simp [Value.ownBlock] at hg'; subst hg'
              rcases HG3.out with h | h
              · exact HOw.out _ h
              · simp at h; omega
            case measure => simp [slen]; omega
        | x :: X', y :: Y' =>
          obtain ⟨b5, o5, rfl, hc5⟩ := HX.out.base (by simp) (by decide)
          have HRX : Hid (wa.rangeAt b5 o5 (memC x)) := fun j v hv => HGa.out.keeps (hc5 j v (by rw [mems_cons, List.getElem?_append_left (List.getElem?_eq_some_iff.1 hv).1]; exact hv))
          have HIX : Hid ((Tryz.prog.info? 191).map (·.size) = some (memC x).length) := by unfold Hid; rw [(HKX.out x (by simp)).length]; exact info_mems
          obtain ⟨kX, soX, flX, biX, txX, laX, lnX, lcX, kaX, knX, kcX, eX⟩ := HKX.out x (by simp)
          have HXL : Hid (memC x = [.string x.1, .int .i64 soX, .bool flX, .int .u64 biX, .string txX, .slice laX lnX lcX, .slice kaX knX kcX]) := by unfold Hid memC; rw [eX]; rfl
          have HXE : Hid ((memC x).toArray = #[.string x.1, .int .i64 soX, .bool flX, .int .u64 biX, .string txX, .slice laX lnX lcX, .slice kaX knX kcX]) := by unfold Hid; rw [HXL.out]
          have hx0 : wa.cell? ⟨b5, o5, none⟩ = some (.string x.1) := by have := HRX.out 0 (.string x.1) rfl; rwa [Nat.add_zero] at this
          clear eX hc5
          obtain ⟨b6, o6, rfl, hc6⟩ := HY.out.base (by simp) (by decide)
          have HRY : Hid (wa.rangeAt b6 o6 (memC y)) := fun j v hv => HGa.out.keeps (hc6 j v (by rw [mems_cons, List.getElem?_append_left (List.getElem?_eq_some_iff.1 hv).1]; exact hv))
          have HIY : Hid ((Tryz.prog.info? 191).map (·.size) = some (memC y).length) := by unfold Hid; rw [(HKY.out y (by simp)).length]; exact info_mems
          obtain ⟨kY, soY, flY, biY, txY, laY, lnY, lcY, kaY, knY, kcY, eY⟩ := HKY.out y (by simp)
          have HYL : Hid (memC y = [.string y.1, .int .i64 soY, .bool flY, .int .u64 biY, .string txY, .slice laY lnY lcY, .slice kaY knY kcY]) := by unfold Hid memC; rw [eY]; rfl
          have HYE : Hid ((memC y).toArray = #[.string y.1, .int .i64 soY, .bool flY, .int .u64 biY, .string txY, .slice laY lnY lcY, .slice kaY knY kcY]) := by unfold Hid; rw [HYL.out]
          have hy0 : wa.cell? ⟨b6, o6, none⟩ = some (.string y.1) := by have := HRY.out 0 (.string y.1) rfl; rwa [Nat.add_zero] at this
          clear eY hc6
          simp only [List.length_nil, List.length_cons] at hlen hac5 hac6 ⊢
          have hlo : out.length ≤ 4294967296 := by omega
          obtain ⟨m1, hm1⟩ : ∃ m, m = X'.length + 1 := ⟨_, rfl⟩
          have HXn : Hid (RowC wb (.slice (some ⟨b5, o5, none⟩) m1 c5) 7 m1 (memC x ++ mems X')) := by rw [hm1, ← mems_cons]; exact HX.out
          have HXm := Lib.hid hm1
          rw [← hm1] at hlen hac5 ⊢
          have t1m1 : ((m1 : Int) == 0) = false := by rw [beq_eq_false_iff_ne]; omega
          have t2m1 : (0 : Int) < (m1 : Int) := by omega
          have t3m1 : m1 ≤ 4294967297 := by omega
          have t4m1 : 0 < m1 := by omega
          have t5m1 : decide (0 < m1) = true := decide_eq_true t4m1
          clear hm1
          obtain ⟨m2, hm2⟩ : ∃ m, m = Y'.length + 1 := ⟨_, rfl⟩
          have HYn : Hid (RowC wb (.slice (some ⟨b6, o6, none⟩) m2 c6) 7 m2 (memC y ++ mems Y')) := by rw [hm2, ← mems_cons]; exact HY.out
          have HYm := Lib.hid hm2
          rw [← hm2] at hlen hac6 ⊢
          have t1m2 : ((m2 : Int) == 0) = false := by rw [beq_eq_false_iff_ne]; omega
          have t2m2 : (0 : Int) < (m2 : Int) := by omega
          have t3m2 : m2 ≤ 4294967297 := by omega
          have t4m2 : 0 < m2 := by omega
          have t5m2 : decide (0 < m2) = true := decide_eq_true t4m2
          clear hm2
          have HC := Lib.hid fun w => r3_Compare x.1 y.1 w kX.2 kY.2 kX.1 kY.1
          clear kX kY
          obtain ⟨q, hq⟩ : ∃ q, q = Utf.cmpR x.1 y.1 := ⟨_, rfl⟩
          rw [← hq] at HC
          by_cases hle : q ≤ 0
          · have HM2 : Hid (out ++ [x] ++ List.merge X' (y :: Y') (leK Prod.fst) = srt Prod.fst ks) := by unfold Hid; rw [← HM.out, merge_left Prod.fst (by rw [← hq]; exact hle)]; simp
            clear hq
            rcases Decidable.em (c5 = 1) with hc1 | hc1
            all_goals
              go_wp2_with fail
              go_still_tail 16, (by kernel_rfl)
              go_wp2_with (first
                | (go_at_call 126; refine (HC.out _).mono ?_; rintro e w1 ⟨rfl, hg1⟩; have HG1 := Lib.hid ((Chg.refl wa []).drew.trans hg1); have HRX1 : Hid (w1.rangeAt b5 o5 (memC x)) := (fun j v hv => HG1.out.keeps (HRX.out j v hv)); have HRY1 : Hid (w1.rangeAt b6 o6 (memC y)) := (fun j v hv => HG1.out.keeps (HRY.out j v hv)); clear hg1)
                | (refine wpList_load_mid rfl _ _ rfl b5 o5 (by rfl) (memC x) _ (by exact HRX1.out) Tryz.underlying191 rfl HIX.out ?_; rw [HXE.out])
                | (at_builtin; go_loud (refine wpList_appendK rfl _ _ _ rfl 191 zMem 7 104 (by decide) Tryz.underlying189 info_mem rfl u5 out.length (mems out) (by rfl) (by exact (HO.out.kept HG1.out (by simp)).kept (bs := []) (by (repeat (first | exact Chg.refl _ _ | with_reducible refine Chg.drewN ?_ _ | with_reducible refine Chg.drew ?_ | with_reducible refine Chg.alloc ?_ _ | with_reducible refine Chg.setCell ?_ _ _ (by simp) | with_reducible refine Chg.setCell ?_ _ _ (by simp; omega)))) (by simp)) w1.heap.size [.string x.1, .int .i64 soX, .bool flX, .int .u64 biX, .string txX, .slice laX lnX lcX, .slice kaX knX kcX] (by rfl) (by rfl) (by exact cells_new' _ _ _) (by intro u hu; simp only [List.mem_cons, List.not_mem_nil, or_false] at hu; rcases hu with rfl | rfl | rfl | rfl | rfl | rfl | rfl <;> rfl) (by omega) (by omega) ?_; intro g cap' w3 hL3 hC3 hG3; rw [← HXL.out] at hL3; have HL3 := Lib.hid hL3; have HC3 := Lib.hid hC3; have HG3 := Lib.hid hG3; clear hL3 hC3 hG3)))
              go_roundw
              case rel =>
                have z1 := HGa.out.size
                have z2 := HG1.out.size
                have e1 := HXm.out
                have e2 := HYm.out
                refine ⟨X', (y :: Y'), out ++ [x], (by first | (refine HXn.out.nextZ _ ?_ ?_ ?_ ?_ <;> (first | exact (HKX.out x (by simp)).length | omega)) | (refine RowC.nextZNone ?_ ?_ ?_ <;> (first | omega | (rw [mems_length (fun s hs => HKX.out s (by simp [hs]))]; omega)))), (by rw [List.length_cons, ← e2, mems_cons]; exact HYn.out), (by rw [List.length_append, mems_append, mems_cons, show mems [] = [] from rfl, List.append_nil]; exact HL3.out), Chg.own (sv := .slice none 0 0) (by (repeat (first | exact HGa.out.trans HG1.out | with_reducible refine Chg.drewN ?_ _ | with_reducible refine Chg.drew ?_ | with_reducible refine Chg.alloc ?_ _ | with_reducible refine Chg.setCell ?_ _ _ (by simp) | with_reducible refine Chg.setCell ?_ _ _ (by simp; omega)))) HC3.out (fun g hg => by cases hg) (fun g hg => .inr (HOw.out g hg)), fun g' hg' => ?_, by rw [← HM2.out], by rw [List.length_append]; simp only [List.length_nil, List.length_cons]; omega, (fun s hs => HKX.out s (by simp [hs])), HKY.out⟩
                simp [Value.ownBlock] at hg'; subst hg'
                rcases HG3.out with h | h
                · exact HOw.out _ h
                · simp at h; omega
              case measure => simp [slen]; omega
          · have HM2 : Hid (out ++ [y] ++ List.merge (x :: X') Y' (leK Prod.fst) = srt Prod.fst ks) := by unfold Hid; rw [← HM.out, merge_right Prod.fst (by rw [← hq]; exact hle)]; simp
            clear hq
            rcases Decidable.em (c6 = 1) with hc1 | hc1
            all_goals
              go_wp2_with fail
              go_still_tail 16, (by kernel_rfl)
              go_wp2_with (first
                | (go_at_call 126; refine (HC.out _).mono ?_; rintro e w1 ⟨rfl, hg1⟩; have HG1 := Lib.hid ((Chg.refl wa []).drew.trans hg1); have HRX1 : Hid (w1.rangeAt b5 o5 (memC x)) := (fun j v hv => HG1.out.keeps (HRX.out j v hv)); have HRY1 : Hid (w1.rangeAt b6 o6 (memC y)) := (fun j v hv => HG1.out.keeps (HRY.out j v hv)); clear hg1)
                | (refine wpList_load_mid rfl _ _ rfl b6 o6 (by rfl) (memC y) _ (by exact HRY1.out) Tryz.underlying191 rfl HIY.out ?_; rw [HYE.out])
                | (at_builtin; go_loud (refine wpList_appendK rfl _ _ _ rfl 191 zMem 7 104 (by decide) Tryz.underlying189 info_mem rfl u5 out.length (mems out) (by rfl) (by exact (HO.out.kept HG1.out (by simp)).kept (bs := []) (by (repeat (first | exact Chg.refl _ _ | with_reducible refine Chg.drewN ?_ _ | with_reducible refine Chg.drew ?_ | with_reducible refine Chg.alloc ?_ _ | with_reducible refine Chg.setCell ?_ _ _ (by simp) | with_reducible refine Chg.setCell ?_ _ _ (by simp; omega)))) (by simp)) w1.heap.size [.string y.1, .int .i64 soY, .bool flY, .int .u64 biY, .string txY, .slice laY lnY lcY, .slice kaY knY kcY] (by rfl) (by rfl) (by exact cells_new' _ _ _) (by intro u hu; simp only [List.mem_cons, List.not_mem_nil, or_false] at hu; rcases hu with rfl | rfl | rfl | rfl | rfl | rfl | rfl <;> rfl) (by omega) (by omega) ?_; intro g cap' w3 hL3 hC3 hG3; rw [← HYL.out] at hL3; have HL3 := Lib.hid hL3; have HC3 := Lib.hid hC3; have HG3 := Lib.hid hG3; clear hL3 hC3 hG3)))
              go_roundw
              case rel =>
                have z1 := HGa.out.size
                have z2 := HG1.out.size
                have e1 := HXm.out
                have e2 := HYm.out
                refine ⟨(x :: X'), Y', out ++ [y], (by rw [List.length_cons, ← e1, mems_cons]; exact HXn.out), (by first | (refine HYn.out.nextZ _ ?_ ?_ ?_ ?_ <;> (first | exact (HKY.out y (by simp)).length | omega)) | (refine RowC.nextZNone ?_ ?_ ?_ <;> (first | omega | (rw [mems_length (fun s hs => HKY.out s (by simp [hs]))]; omega)))), (by rw [List.length_append, mems_append, mems_cons, show mems [] = [] from rfl, List.append_nil]; exact HL3.out), Chg.own (sv := .slice none 0 0) (by (repeat (first | exact HGa.out.trans HG1.out | with_reducible refine Chg.drewN ?_ _ | with_reducible refine Chg.drew ?_ | with_reducible refine Chg.alloc ?_ _ | with_reducible refine Chg.setCell ?_ _ _ (by simp) | with_reducible refine Chg.setCell ?_ _ _ (by simp; omega)))) HC3.out (fun g hg => by cases hg) (fun g hg => .inr (HOw.out g hg)), fun g' hg' => ?_, by rw [← HM2.out], by rw [List.length_append]; simp only [List.length_nil, List.length_cons]; omega, HKX.out, (fun s hs => HKY.out s (by simp [hs]))⟩
                simp [Value.ownBlock] at hg'; subst hg'
                rcases HG3.out with h | h
                · exact HOw.out _ h
                · simp at h; omega
              case measure => simp [slen]; omega
end Go.Proofs.YtfdhgakalojahaaGreatDoor

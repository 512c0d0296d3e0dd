/- LAWS: a method called on an interface value whose dynamic type is one of a tree's. WALKS: the program's layer 10: small functions. WALKS: the program's layer 10: used. WALKS: the reference's looks at a step: Used, finite. WALKS: the reference's layer 3. RefUtf2 -/
import Derived.WalkSpells
import Derived.WalkLawsBesides
import Derived.Deep.Light
import Derived.Test.YtfdhgakalojahaaGreatDoorM05
import Derived.Test.YtfdhgakalojahaaGreatDoorM03
import Derived.Test.YtfdhgakalojahaaGreatDoorRows
import Derived.WalkKit
import Derived.Lib.Hide
import Derived.Test.YtfdhgakalojahaaGreatDoorM01
set_option linter.unusedSimpArgs false
set_option linter.unusedVariables false
set_option linter.unnecessarySimpa false
set_option linter.unusedSectionVars false
namespace Go.Proofs.YtfdhgakalojahaaGreatDoor
open Go Go.RowKit Tree

def sizedName : String := String.ofList [Char.ofNat 97, Char.ofNat 102, Char.ofNat 102, Char.ofNat 105, Char.ofNat 100, Char.ofNat 97, Char.ofNat 118, Char.ofNat 105, Char.ofNat 116, Char.ofNat 47, Char.ofNat 110, Char.ofNat 111, Char.ofNat 100, Char.ofNat 101, Char.ofNat 46, Char.ofNat 115, Char.ofNat 105, Char.ofNat 122, Char.ofNat 101, Char.ofNat 100]
def sortName : String := String.ofList [Char.ofNat 97, Char.ofNat 102, Char.ofNat 102, Char.ofNat 105, Char.ofNat 100, Char.ofNat 97, Char.ofNat 118, Char.ofNat 105, Char.ofNat 116, Char.ofNat 47, Char.ofNat 110, Char.ofNat 111, Char.ofNat 100, Char.ofNat 101, Char.ofNat 46, Char.ofNat 115, Char.ofNat 111, Char.ofNat 114, Char.ofNat 116]

theorem wpList_invoke {P : Program} {ops : Array Oper} {rest : List Oper} {o : Oper} {a : Act} {Q : Exit → Act → World → Prop} {w : World} (hg : o.guard = none) (r : Operand) (name : String) (tys : Array TypeId)
    (hop : o.op = .call { callee := .invoke r name, args := #[], argTypes := tys }) (v : Value) (hv : a.eval r = v) (f : FuncId) (args : Array Value)
    (hm : (callMethod v name #[]).run P w = .ok (.enter f args) w) (R : Ending → World → Prop) (hc : Calls P f args w R)
    (hR : ∀ e w2, R e w2 → ∃ u, e = .returned u ∧ wpList P ops Q rest (a.put o.dst u) w2) : wpList P ops Q (o :: rest) a w := by
  refine wpList_plain hg fun K hK => ?_
  unfold Oper.wp
  have he : (execOp a.eval o).run P w = .ok (.enter f args) w := by
    simp [execOp, hop, resolve, invoke, hv, hm]
  rw [he]
  refine hc.mono fun e w2 h => ?_
  obtain ⟨u, rfl, hu⟩ := hR e w2 h
  exact hK _ _ hu

def szV (s : Sz) : Value := .agg #[.int .i64 s.nodes, .int .i64 s.bytes, .int .i64 s.depth]

theorem node_text_sized (s : ByteArray) (w : World) :
    Calls Tryz.prog 194 #[.string s] w fun e w' => e = .returned (szV (szT (.text s))) ∧ Chg w w' [] := by
  go_enter Tryz.func194, Tryz.ntmps194
  go_wp2
  refine bodyPost_ret (v := .agg #[.int .i64 1, .int .i64 s.size, .int .i64 1]) (by simp [results, Tryz.results194, go_sem]) rfl ⟨rfl, (Chg.refl _ _).alloc _⟩

theorem node_null_sized (w : World) :
    Calls Tryz.prog 196 #[.agg #[]] w fun e w' => e = .returned (szV (szT .null)) ∧ Chg w w' [] := by
  go_enter Tryz.func196, Tryz.ntmps196
  go_wp2
  refine bodyPost_ret (v := .agg #[.int .i64 1, .int .i64 0, .int .i64 1]) (by simp [results, Tryz.results196, go_sem]) rfl ⟨rfl, by (repeat (first | exact Chg.refl _ _ | with_reducible refine Chg.drewN ?_ _ | with_reducible refine Chg.drew ?_ | with_reducible refine Chg.alloc ?_ _ | with_reducible refine Chg.setCell ?_ _ _ (by simp) | with_reducible refine Chg.setCell ?_ _ _ (by simp; omega)))⟩

theorem node_flag_sized (b : Bool) (w : World) :
    Calls Tryz.prog 198 #[.bool b] w fun e w' => e = .returned (szV (szT .null)) ∧ Chg w w' [] := by
  go_enter Tryz.func198, Tryz.ntmps198
  go_wp2
  refine bodyPost_ret (v := .agg #[.int .i64 1, .int .i64 0, .int .i64 1]) (by simp [results, Tryz.results198, go_sem]) rfl ⟨rfl, (Chg.refl _ _).alloc _⟩

theorem node_number_sized (n : Nat) (w : World) :
    Calls Tryz.prog 200 #[.float .f64 n] w fun e w' => e = .returned (szV (szT .null)) ∧ Chg w w' [] := by
  go_enter Tryz.func200, Tryz.ntmps200
  go_wp2
  refine bodyPost_ret (v := .agg #[.int .i64 1, .int .i64 0, .int .i64 1]) (by simp [results, Tryz.results200, go_sem]) rfl ⟨rfl, (Chg.refl _ _).alloc _⟩

theorem node_size_sized (a b c : Nat) (w : World) :
    Calls Tryz.prog 202 #[.agg #[.int .i64 a, .int .i64 b, .int .i64 c]] w fun e w' => e = .returned (szV ⟨a, b, c⟩) ∧ Chg w w' [] := by
  go_enter Tryz.func202, Tryz.ntmps202
  go_wp2
  refine bodyPost_ret (v := .agg #[.int .i64 a, .int .i64 b, .int .i64 c]) (by simp [results, Tryz.results202, go_sem]) rfl ⟨rfl, by (repeat (first | exact Chg.refl _ _ | with_reducible refine Chg.drewN ?_ _ | with_reducible refine Chg.drew ?_ | with_reducible refine Chg.alloc ?_ _ | with_reducible refine Chg.setCell ?_ _ _ (by simp) | with_reducible refine Chg.setCell ?_ _ _ (by simp; omega)))⟩

theorem sized_text (s : ByteArray) (w : World) : (callMethod (.iface 120 (.string s)) sizedName #[]).run Tryz.prog w = .ok (.enter 194 #[.string s]) w := by kernel_rfl
theorem sized_null (w : World) : (callMethod (.iface 141 (.agg #[])) sizedName #[]).run Tryz.prog w = .ok (.enter 196 #[.agg #[]]) w := by kernel_rfl
theorem sized_flag (b : Bool) (w : World) : (callMethod (.iface 142 (.bool b)) sizedName #[]).run Tryz.prog w = .ok (.enter 198 #[.bool b]) w := by kernel_rfl
theorem sized_number (b : Nat) (w : World) : (callMethod (.iface 146 (.float .f64 b)) sizedName #[]).run Tryz.prog w = .ok (.enter 200 #[.float .f64 b]) w := by kernel_rfl
theorem sized_list (b : Nat) (n m d : Int) (w : World) (h0 : w.cell? ⟨b, 0, none⟩ = some (.int .i64 n)) (h1 : w.cell? ⟨b, 1, none⟩ = some (.int .i64 m)) (h2 : w.cell? ⟨b, 2, none⟩ = some (.int .i64 d)) :
    (callMethod (.iface 149 (.pointer (some ⟨b, 0, none⟩))) sizedName #[]).run Tryz.prog w = .ok (.enter 202 #[.agg #[.int .i64 n, .int .i64 m, .int .i64 d]]) w := by
  have e : (callMethod (.iface 149 (.pointer (some ⟨b, 0, none⟩))) sizedName #[]).run Tryz.prog w = (do let v ← loadVar 151 ⟨b, 0, none⟩; callFunc 202 #[v]).run Tryz.prog w := by kernel_rfl
  rw [e]
  simp [go_sem, h0, h1, h2]

theorem sized_obj (b : Nat) (n m d : Int) (w : World) (h0 : w.cell? ⟨b, 0, none⟩ = some (.int .i64 n)) (h1 : w.cell? ⟨b, 1, none⟩ = some (.int .i64 m)) (h2 : w.cell? ⟨b, 2, none⟩ = some (.int .i64 d)) :
    (callMethod (.iface 174 (.pointer (some ⟨b, 0, none⟩))) sizedName #[]).run Tryz.prog w = .ok (.enter 202 #[.agg #[.int .i64 n, .int .i64 m, .int .i64 d]]) w := by
  have e : (callMethod (.iface 174 (.pointer (some ⟨b, 0, none⟩))) sizedName #[]).run Tryz.prog w = (do let v ← loadVar 151 ⟨b, 0, none⟩; callFunc 202 #[v]).run Tryz.prog w := by kernel_rfl
  rw [e]
  simp [go_sem, h0, h1, h2]

theorem sized_any {w : World} {F : Nat → Prop} (t : Tr) (v : Value) (h : ItemAt w F t v) :
    ∃ f args, (callMethod v sizedName #[]).run Tryz.prog w = .ok (.enter f args) w ∧ Calls Tryz.prog f args w fun e w' => e = .returned (szV (szT t)) ∧ Chg w w' [] := by
  cases t with
  | null => simp only [ItemAt] at h; subst h; exact ⟨_, _, sized_null w, node_null_sized w⟩
  | flag b => simp only [ItemAt] at h; subst h; exact ⟨_, _, sized_flag b w, node_flag_sized b w⟩
  | num b => simp only [ItemAt] at h; subst h; exact ⟨_, _, sized_number b w, node_number_sized b w⟩
  | text s => simp only [ItemAt] at h; subst h; exact ⟨_, _, sized_text s w, node_text_sized s w⟩
  | list l =>
    simp only [ItemAt] at h
    obtain ⟨b, sl, vs, rfl, _, h0, h1, h2, _⟩ := h
    exact ⟨_, _, sized_list b _ _ _ w h0 h1 h2, node_size_sized _ _ _ w⟩
  | obj ks l =>
    simp only [ItemAt] at h
    obtain ⟨b, sk, sl, vs, rfl, _, _, h0, h1, h2, _⟩ := h
    exact ⟨_, _, sized_obj b _ _ _ w h0 h1 h2, node_size_sized _ _ _ w⟩

/-- a tree's sort, as the program numbers it -/
def sortT : Tr → Int
  | .null => 1
  | .flag _ => 2
  | .num _ => 3
  | .text _ => 4
  | .list _ => 5
  | .obj _ _ => 6

theorem node_null_sort (w : World) : Calls Tryz.prog 197 #[.agg #[]] w fun e w' => e = .returned (.int .i64 1) ∧ Chg w w' [] := by
  go_enter Tryz.func197, Tryz.ntmps197
  go_wp2
  go_ret
  exact ⟨rfl, by (repeat (first | exact Chg.refl _ _ | with_reducible refine Chg.drewN ?_ _ | with_reducible refine Chg.drew ?_ | with_reducible refine Chg.alloc ?_ _ | with_reducible refine Chg.setCell ?_ _ _ (by simp) | with_reducible refine Chg.setCell ?_ _ _ (by simp; omega)))⟩
theorem sort_null (w : World) : (callMethod (.iface 141 (.agg #[])) sortName #[]).run Tryz.prog w = .ok (.enter 197 #[.agg #[]]) w := by kernel_rfl

theorem node_flag_sort (b : Bool) (w : World) : Calls Tryz.prog 199 #[.bool b] w fun e w' => e = .returned (.int .i64 2) ∧ Chg w w' [] := by
  go_enter Tryz.func199, Tryz.ntmps199
  go_wp2
  go_ret
  exact ⟨rfl, by (repeat (first | exact Chg.refl _ _ | with_reducible refine Chg.drewN ?_ _ | with_reducible refine Chg.drew ?_ | with_reducible refine Chg.alloc ?_ _ | with_reducible refine Chg.setCell ?_ _ _ (by simp) | with_reducible refine Chg.setCell ?_ _ _ (by simp; omega)))⟩
theorem sort_flag (b : Bool) (w : World) : (callMethod (.iface 142 (.bool b)) sortName #[]).run Tryz.prog w = .ok (.enter 199 #[.bool b]) w := by kernel_rfl

theorem node_number_sort (n : Nat) (w : World) : Calls Tryz.prog 201 #[.float .f64 n] w fun e w' => e = .returned (.int .i64 3) ∧ Chg w w' [] := by
  go_enter Tryz.func201, Tryz.ntmps201
  go_wp2
  go_ret
  exact ⟨rfl, by (repeat (first | exact Chg.refl _ _ | with_reducible refine Chg.drewN ?_ _ | with_reducible refine Chg.drew ?_ | with_reducible refine Chg.alloc ?_ _ | with_reducible refine Chg.setCell ?_ _ _ (by simp) | with_reducible refine Chg.setCell ?_ _ _ (by simp; omega)))⟩
theorem sort_number (n : Nat) (w : World) : (callMethod (.iface 146 (.float .f64 n)) sortName #[]).run Tryz.prog w = .ok (.enter 201 #[.float .f64 n]) w := by kernel_rfl

theorem node_text_sort (s : ByteArray) (w : World) : Calls Tryz.prog 195 #[.string s] w fun e w' => e = .returned (.int .i64 4) ∧ Chg w w' [] := by
  go_enter Tryz.func195, Tryz.ntmps195
  go_wp2
  go_ret
  exact ⟨rfl, by (repeat (first | exact Chg.refl _ _ | with_reducible refine Chg.drewN ?_ _ | with_reducible refine Chg.drew ?_ | with_reducible refine Chg.alloc ?_ _ | with_reducible refine Chg.setCell ?_ _ _ (by simp) | with_reducible refine Chg.setCell ?_ _ _ (by simp; omega)))⟩
theorem sort_text (s : ByteArray) (w : World) : (callMethod (.iface 120 (.string s)) sortName #[]).run Tryz.prog w = .ok (.enter 195 #[.string s]) w := by kernel_rfl

theorem node_list_sort (b : Nat) (w : World) : Calls Tryz.prog 203 #[.pointer (some ⟨b, 0, none⟩)] w fun e w' => e = .returned (.int .i64 5) ∧ Chg w w' [] := by
  go_enter Tryz.func203, Tryz.ntmps203
  go_wp2
  go_ret
  exact ⟨rfl, by (repeat (first | exact Chg.refl _ _ | with_reducible refine Chg.drewN ?_ _ | with_reducible refine Chg.drew ?_ | with_reducible refine Chg.alloc ?_ _ | with_reducible refine Chg.setCell ?_ _ _ (by simp) | with_reducible refine Chg.setCell ?_ _ _ (by simp; omega)))⟩
theorem sort_list (b : Nat) (w : World) : (callMethod (.iface 149 (.pointer (some ⟨b, 0, none⟩))) sortName #[]).run Tryz.prog w = .ok (.enter 203 #[.pointer (some ⟨b, 0, none⟩)]) w := by kernel_rfl

theorem node_object_sort (b : Nat) (w : World) : Calls Tryz.prog 204 #[.pointer (some ⟨b, 0, none⟩)] w fun e w' => e = .returned (.int .i64 6) ∧ Chg w w' [] := by
  go_enter Tryz.func204, Tryz.ntmps204
  go_wp2
  go_ret
  exact ⟨rfl, by (repeat (first | exact Chg.refl _ _ | with_reducible refine Chg.drewN ?_ _ | with_reducible refine Chg.drew ?_ | with_reducible refine Chg.alloc ?_ _ | with_reducible refine Chg.setCell ?_ _ _ (by simp) | with_reducible refine Chg.setCell ?_ _ _ (by simp; omega)))⟩
theorem sort_object (b : Nat) (w : World) : (callMethod (.iface 174 (.pointer (some ⟨b, 0, none⟩))) sortName #[]).run Tryz.prog w = .ok (.enter 204 #[.pointer (some ⟨b, 0, none⟩)]) w := by kernel_rfl

theorem sort_any {w : World} {F : Nat → Prop} (t : Tr) (v : Value) (h : ItemAt w F t v) :
    ∃ f args, (callMethod v sortName #[]).run Tryz.prog w = .ok (.enter f args) w ∧ Calls Tryz.prog f args w fun e w' => e = .returned (.int .i64 (sortT t)) ∧ Chg w w' [] := by
  cases t with
  | null => simp only [ItemAt] at h; subst h; exact ⟨_, _, sort_null w, node_null_sort w⟩
  | flag b => simp only [ItemAt] at h; subst h; exact ⟨_, _, sort_flag b w, node_flag_sort b w⟩
  | num b => simp only [ItemAt] at h; subst h; exact ⟨_, _, sort_number b w, node_number_sort b w⟩
  | text s => simp only [ItemAt] at h; subst h; exact ⟨_, _, sort_text s w, node_text_sort s w⟩
  | list l =>
    simp only [ItemAt] at h
    obtain ⟨b, sl, vs, rfl, _⟩ := h
    exact ⟨_, _, sort_list b w, node_list_sort b w⟩
  | obj ks l =>
    simp only [ItemAt] at h
    obtain ⟨b, sk, sl, vs, rfl, _⟩ := h
    exact ⟨_, _, sort_object b w, node_object_sort b w⟩
end Go.Proofs.YtfdhgakalojahaaGreatDoor

namespace Go.Proofs.YtfdhgakalojahaaGreatDoor
open Go Go.RowKit Tree

theorem Blk.new1 (w : World) (o : Obj) (cs : List Value) (T : TypeId) : Blk ((w.alloc o).alloc (.cells cs.toArray T)) (w.heap.size + 1) cs T := by
  have := Blk.new (w.alloc o) cs T
  simpa using this

set_option maxRecDepth 100000 in
set_option maxHeartbeats 1000000 in
theorem node_within (a b c : Nat) (w : World) :
    Calls Tryz.prog 103 #[.agg #[.int .i64 a, .int .i64 b, .int .i64 c]] w fun e w' => e = .returned (.bool (Sz.within ⟨a, b, c⟩)) ∧ Chg w w' [] := by
  go_enter Tryz.func103, Tryz.ntmps103
  by_cases h1 : a ≤ 65536
  · by_cases h2 : b ≤ 2097152
    · go_wp2
      go_ret
      refine ⟨ret_bool ?_, by (repeat (first | exact Chg.refl _ _ | with_reducible refine Chg.drewN ?_ _ | with_reducible refine Chg.drew ?_ | with_reducible refine Chg.alloc ?_ _ | with_reducible refine Chg.setCell ?_ _ _ (by simp) | with_reducible refine Chg.setCell ?_ _ _ (by simp; omega)))⟩
      go_light
      unfold Sz.within
      rw [Bool.eq_iff_iff]; simp; omega
    · go_wp2
      go_ret
      refine ⟨ret_bool ?_, by (repeat (first | exact Chg.refl _ _ | with_reducible refine Chg.drewN ?_ _ | with_reducible refine Chg.drew ?_ | with_reducible refine Chg.alloc ?_ _ | with_reducible refine Chg.setCell ?_ _ _ (by simp) | with_reducible refine Chg.setCell ?_ _ _ (by simp; omega)))⟩
      go_light
      unfold Sz.within
      rw [Bool.eq_iff_iff]; simp; omega
  · go_wp2
    go_ret
    refine ⟨ret_bool ?_, by (repeat (first | exact Chg.refl _ _ | with_reducible refine Chg.drewN ?_ _ | with_reducible refine Chg.drew ?_ | with_reducible refine Chg.alloc ?_ _ | with_reducible refine Chg.setCell ?_ _ _ (by simp) | with_reducible refine Chg.setCell ?_ _ _ (by simp; omega)))⟩
    go_light
    unfold Sz.within
    rw [Bool.eq_iff_iff]; simp; omega

theorem node_refuse_ok (e : Int) (w : World) : Calls Tryz.prog 70 #[.bool true, .int .i64 e] w fun r w' => r = .returned (.tuple #[]) ∧ w = w' := by
  go_enter Tryz.func70, Tryz.ntmps70
  go_wp2
  go_end0
  exact ⟨rfl, rfl⟩

theorem node_refuse_no (e : Int) (w : World) : Calls Tryz.prog 70 #[.bool false, .int .i64 e] w fun r w' => r = .panicked [{ v := .iface 34 (.int .i64 e), recovered := false }] ∧ w = w' := by
  go_enter Tryz.func70, Tryz.ntmps70
  go_wp2
  exact ⟨rfl, rfl, rfl⟩
end Go.Proofs.YtfdhgakalojahaaGreatDoor

namespace Go.Proofs.YtfdhgakalojahaaGreatDoor
open Go Go.RowKit Tree

/-- a Step's cells -/
def StpV (sort : Int) (flag : Bool) (bits : Nat) (text : ByteArray) (count : Int) (keys : Value) : Value :=
  .agg #[.int .i64 sort, .bool flag, .int .u64 bits, .string text, .int .i64 count, keys]

def usedB (sort : Int) (flag : Bool) (bits : Nat) (text : ByteArray) (count : Int) (nkeys : Nat) : Bool :=
  decide (1 ≤ sort) && decide (sort ≤ 6) && decide (0 ≤ count) && (!flag || decide (sort = 2)) && (decide (bits = 0) || decide (sort = 3)) &&
    (decide (text.toList = []) || decide (sort = 4)) && (decide (count = 0) || decide (sort = 5)) && (decide (nkeys = 0) || decide (sort = 6))

set_option maxRecDepth 100000 in
set_option maxHeartbeats 4000000 in
theorem node_used (sort : Int) (flag : Bool) (bits : Nat) (text : ByteArray) (count : Int) (ka : Option Addr) (kn kc : Nat) (w : World) :
    Calls Tryz.prog 71 #[StpV sort flag bits text count (.slice ka kn kc)] w fun e w' => e = .returned (.bool (usedB sort flag bits text count kn)) ∧ Chg w w' [] := by
  unfold StpV
  by_cases h1 : 1 ≤ sort
  · by_cases h2 : sort ≤ 6
    · by_cases h3 : 0 ≤ count
      · go_enter Tryz.func71, Tryz.ntmps71
        go_wp2
        all_goals go_ret
        all_goals refine ⟨ret_bool ?_, by (repeat (first | exact Chg.refl _ _ | with_reducible refine Chg.drewN ?_ _ | with_reducible refine Chg.drew ?_ | with_reducible refine Chg.alloc ?_ _ | with_reducible refine Chg.setCell ?_ _ _ (by simp) | with_reducible refine Chg.setCell ?_ _ _ (by simp; omega)))⟩
        all_goals go_light
        all_goals (unfold usedB; simp_all)
        all_goals first | omega | (rw [Bool.eq_iff_iff]; simp; done) | (rw [Bool.eq_iff_iff]; simp; omega) | go_ways
      · go_enter Tryz.func71, Tryz.ntmps71
        go_wp2
        all_goals go_ret
        all_goals refine ⟨ret_bool ?_, by (repeat (first | exact Chg.refl _ _ | with_reducible refine Chg.drewN ?_ _ | with_reducible refine Chg.drew ?_ | with_reducible refine Chg.alloc ?_ _ | with_reducible refine Chg.setCell ?_ _ _ (by simp) | with_reducible refine Chg.setCell ?_ _ _ (by simp; omega)))⟩
        all_goals go_light
        all_goals (unfold usedB; simp_all)
        all_goals first | omega | (rw [Bool.eq_iff_iff]; simp; done) | (rw [Bool.eq_iff_iff]; simp; omega) | go_ways
    · go_enter Tryz.func71, Tryz.ntmps71
      go_wp2
      all_goals go_ret
      all_goals refine ⟨ret_bool ?_, by (repeat (first | exact Chg.refl _ _ | with_reducible refine Chg.drewN ?_ _ | with_reducible refine Chg.drew ?_ | with_reducible refine Chg.alloc ?_ _ | with_reducible refine Chg.setCell ?_ _ _ (by simp) | with_reducible refine Chg.setCell ?_ _ _ (by simp; omega)))⟩
      all_goals go_light
      all_goals (unfold usedB; simp_all)
      all_goals first | omega | (rw [Bool.eq_iff_iff]; simp; done) | (rw [Bool.eq_iff_iff]; simp; omega) | go_ways
  · go_enter Tryz.func71, Tryz.ntmps71
    go_wp2
    all_goals go_ret
    all_goals refine ⟨ret_bool ?_, by (repeat (first | exact Chg.refl _ _ | with_reducible refine Chg.drewN ?_ _ | with_reducible refine Chg.drew ?_ | with_reducible refine Chg.alloc ?_ _ | with_reducible refine Chg.setCell ?_ _ _ (by simp) | with_reducible refine Chg.setCell ?_ _ _ (by simp; omega)))⟩
    all_goals go_light
    all_goals (unfold usedB; simp_all)
    all_goals first | omega | (rw [Bool.eq_iff_iff]; simp; done) | (rw [Bool.eq_iff_iff]; simp; omega) | go_ways
end Go.Proofs.YtfdhgakalojahaaGreatDoor

namespace Go.Proofs.YtfdhgakalojahaaGreatDoor
open Go Go.RowKit Tree

set_option maxRecDepth 100000 in
set_option maxHeartbeats 4000000 in
theorem r10_Used (sort : Int) (flag : Bool) (bits : Nat) (text : ByteArray) (count : Int) (ka : Option Addr) (kn kc : Nat) (w : World) :
    Calls Tryz.prog 63 #[StpV sort flag bits text count (.slice ka kn kc)] w fun e w' => e = .returned (.bool (usedB sort flag bits text count kn)) ∧ Chg w w' [] := by
  unfold StpV
  by_cases h1 : 1 ≤ sort
  · by_cases h2 : sort ≤ 6
    · by_cases h3 : 0 ≤ count
      · go_enter Tryz.func63, Tryz.ntmps63
        go_wp2
        all_goals go_ret
        all_goals refine ⟨ret_bool ?_, by (repeat (first | exact Chg.refl _ _ | with_reducible refine Chg.drewN ?_ _ | with_reducible refine Chg.drew ?_ | with_reducible refine Chg.alloc ?_ _ | with_reducible refine Chg.setCell ?_ _ _ (by simp) | with_reducible refine Chg.setCell ?_ _ _ (by simp; omega)))⟩
        all_goals go_light
        all_goals (unfold usedB; simp_all)
        all_goals first | omega | (rw [Bool.eq_iff_iff]; simp; done) | (rw [Bool.eq_iff_iff]; simp; omega) | go_ways
      · go_enter Tryz.func63, Tryz.ntmps63
        go_wp2
        all_goals go_ret
        all_goals refine ⟨ret_bool ?_, by (repeat (first | exact Chg.refl _ _ | with_reducible refine Chg.drewN ?_ _ | with_reducible refine Chg.drew ?_ | with_reducible refine Chg.alloc ?_ _ | with_reducible refine Chg.setCell ?_ _ _ (by simp) | with_reducible refine Chg.setCell ?_ _ _ (by simp; omega)))⟩
        all_goals go_light
        all_goals (unfold usedB; simp_all)
        all_goals first | omega | (rw [Bool.eq_iff_iff]; simp; done) | (rw [Bool.eq_iff_iff]; simp; omega) | go_ways
    · go_enter Tryz.func63, Tryz.ntmps63
      go_wp2
      all_goals go_ret
      all_goals refine ⟨ret_bool ?_, by (repeat (first | exact Chg.refl _ _ | with_reducible refine Chg.drewN ?_ _ | with_reducible refine Chg.drew ?_ | with_reducible refine Chg.alloc ?_ _ | with_reducible refine Chg.setCell ?_ _ _ (by simp) | with_reducible refine Chg.setCell ?_ _ _ (by simp; omega)))⟩
      all_goals go_light
      all_goals (unfold usedB; simp_all)
      all_goals first | omega | (rw [Bool.eq_iff_iff]; simp; done) | (rw [Bool.eq_iff_iff]; simp; omega) | go_ways
  · go_enter Tryz.func63, Tryz.ntmps63
    go_wp2
    all_goals go_ret
    all_goals refine ⟨ret_bool ?_, by (repeat (first | exact Chg.refl _ _ | with_reducible refine Chg.drewN ?_ _ | with_reducible refine Chg.drew ?_ | with_reducible refine Chg.alloc ?_ _ | with_reducible refine Chg.setCell ?_ _ _ (by simp) | with_reducible refine Chg.setCell ?_ _ _ (by simp; omega)))⟩
    all_goals go_light
    all_goals (unfold usedB; simp_all)
    all_goals first | omega | (rw [Bool.eq_iff_iff]; simp; done) | (rw [Bool.eq_iff_iff]; simp; omega) | go_ways
end Go.Proofs.YtfdhgakalojahaaGreatDoor

namespace Go.Proofs.YtfdhgakalojahaaGreatDoor
open Go.RowKit

set_option maxRecDepth 100000 in
set_option maxHeartbeats 400000 in
theorem r3_wide (c : Nat) (w : World) :
    Calls Tryz.prog 130 #[.int .u8 c] w fun e w' => e = .returned (.int .i64 (Utf.wideN c)) ∧ w = w' := by
  go_enter Tryz.func130, Tryz.ntmps130
  go_wp2
  all_goals go_ret
  all_goals refine ⟨ret_int ?_, rfl⟩
  all_goals (unfold Utf.wideN; (try simp at *); repeat' split)
  all_goals omega

set_option maxHeartbeats 400000 in
theorem r3_second (c d : Nat) (w : World) :
    Calls Tryz.prog 131 #[.int .u8 c, .int .u8 d] w fun e w' => e = .returned (.bool (Utf.secondB c d)) ∧ w = w' := by
  go_enter Tryz.func131, Tryz.ntmps131
  go_wp2
  all_goals go_ret
  all_goals refine ⟨ret_bool ?_, rfl⟩
  all_goals go_light
  all_goals (unfold Utf.secondB; (try simp at *); repeat' split)
  all_goals (first | omega | (rw [Bool.eq_iff_iff]; simp; omega))
def AtPost (s : ByteArray) (a : Nat) (w : World) (e : Ending) (w' : World) : Prop :=
  ((Utf.okAt s a ∧ e = .returned (.tuple #[.int .i32 (Utf.runeAt s a), .int .i64 (Utf.wideAt s a), .int .i64 0, .int .i64 0])) ∨
   (¬ Utf.okAt s a ∧ ∃ x y : Int, x ≠ 0 ∧ e = .returned (.tuple #[.int .i32 0, .int .i64 0, .int .i64 x, .int .i64 y]))) ∧ w = w'

theorem AtPost.no {s : ByteArray} {a : Nat} {w : World} {x y : Int} (h : ¬ Utf.okAt s a) (hx : x ≠ 0) :
    AtPost s a w (.returned (.tuple #[.int .i32 0, .int .i64 0, .int .i64 x, .int .i64 y])) w := ⟨.inr ⟨h, x, y, hx, rfl⟩, rfl⟩

set_option maxRecDepth 100000 in
set_option maxHeartbeats 800000 in
theorem r3_At (s : ByteArray) (a : Nat) (w : World) (hs : s.size ≤ 2147483648) (h : a < s.size) :
    Calls Tryz.prog 111 #[.string s, .int .i64 a] w (AtPost s a w) := by
  have hw : Utf.wideN s[a].toNat = Utf.wideAt s a := by unfold Utf.wideAt; rw [Utf.byteAt_eq h]
  have h4 := Utf.wideN_le (Utf.byteAt s a)
  rw [show Utf.wideN (Utf.byteAt s a) = Utf.wideAt s a from rfl] at h4
  obtain ⟨n, hn⟩ : ∃ n, n = Utf.wideAt s a := ⟨_, rfl⟩
  rw [← hn] at hw h4
  have hb := UInt8.toNat_lt s[a]
  have HW := Lib.hid hw
  have HN := Lib.hid hn
  have HB := Lib.hid (Utf.byteAt_eq h)
  clear hw hn
  by_cases h0 : n = 0
  · have t0 : ((n : Int) == 0) = true := by simp [h0]
    have H0 := Lib.hid h0
    clear h0
    go_enter Tryz.func111, Tryz.ntmps111
    go_wp2_with (first | (go_at_call 130; refine (r3_wide _ _).mono ?_; rintro e w' ⟨rfl, rfl⟩; rw [HW.out]))
    refine bodyPost_ret (results_tmp4 rfl _ _ _) rfl (AtPost.no ?_ (by decide))
    rintro ⟨g, _⟩
    exact g (HN.out.symm.trans H0.out)
  · have t0 : ((n : Int) == 0) = false := by simp [h0]
    have hn1 : 1 ≤ n := by omega
    clear h0
    go_enter Tryz.func111, Tryz.ntmps111
    go_wp2_with (first | (go_at_call 130; refine (r3_wide _ _).mono ?_; rintro e w' ⟨rfl, rfl⟩; rw [HW.out]))
    go_loop [9] (fun i => ∃ k : Nat, 1 ≤ k ∧ k ≤ n ∧ i = .int .i64 k ∧ Utf.fitsTo s a k) (fun i => n - (intOf i).toNat)
    case atStart => exact ⟨1, by omega, hn1, rfl, fun i h1 h2 => by omega⟩
    case round =>
      obtain ⟨k, hk1, hk2, rfl, hf⟩ := hrel
      have HF := Lib.hid hf
      clear hf
      by_cases hlt : k < n
      · by_cases hsz : a + k < s.size
        · have HK := Lib.hid (Utf.byteAt_eq hsz)
          have hbk := UInt8.toNat_lt s[a + k]
          by_cases hk : k = 1
          · have tk : ((k : Int) == 1) = true := by simp [hk]
            have HK1 := Lib.hid hk
            clear hk
            by_cases hm : Utf.secondB s[a].toNat s[a + k].toNat = true
            · have hc1 := (Utf.secondB_cont hm).1
              have hc2 := (Utf.secondB_cont hm).2
              go_wp2_with (first | (go_at_call 131; refine (r3_second _ _ _).mono ?_; rintro e w' ⟨rfl, rfl⟩))
              go_round
              case rel => exact ⟨k + 1, by omega, by omega, by go_num, Utf.fitsTo_succ HF.out hsz fun _ => by rw [HB.out, HK.out]; exact (congrArg (fun i => Utf.mayB _ i _) HK1.out).trans hm⟩
              case measure => simp [intOf]; omega
            · have hm' : Utf.secondB s[a].toNat s[a + k].toNat = false := by simpa using hm
              clear hm
              go_wp2_with (first | (go_at_call 131; refine (r3_second _ _ _).mono ?_; rintro e w' ⟨rfl, rfl⟩))
              refine bodyPost_ret (results_tmp4 rfl _ _ _) rfl (AtPost.no (Utf.not_okAt HN.out hk1 hlt ?_) (by decide))
              rintro ⟨_, g⟩
              rw [HB.out, HK.out] at g
              have g' : Utf.secondB s[a].toNat s[a + k].toNat = true := (congrArg (fun i => Utf.mayB s[a].toNat i s[a + k].toNat) HK1.out).symm.trans g
              rw [hm'] at g'; cases g'
          · have tk : ((k : Int) == 1) = false := beq_eq_false_iff_ne.2 (by omega)
            have hk2 : 2 ≤ k := by omega
            have HK1 := Lib.hid hk
            clear hk
            by_cases hc : 128 ≤ s[a + k].toNat ∧ s[a + k].toNat ≤ 191
            · obtain ⟨hc1, hc2⟩ := hc
              go_wp2
              go_round
              case rel => exact ⟨k + 1, by omega, by omega, by go_num, Utf.fitsTo_succ HF.out hsz fun _ => by rw [HB.out, HK.out, Utf.mayB_ne HK1.out]; unfold Utf.contB; simp; omega⟩
              case measure => simp [intOf]; omega
            · go_wp2
              all_goals refine bodyPost_ret (results_tmp4 rfl _ _ _) rfl (AtPost.no (Utf.not_okAt HN.out hk1 hlt ?_) (by decide))
              all_goals rintro ⟨_, g⟩
              all_goals rw [HB.out, HK.out, Utf.mayB_ne HK1.out] at g
              all_goals (unfold Utf.contB at g; simp at g; omega)
        · go_wp2
          refine bodyPost_ret (results_tmp4 rfl _ _ _) rfl (AtPost.no (Utf.not_okAt HN.out hk1 hlt ?_) (by decide))
          omega
      · have hkn : k = n := by omega
        subst hkn
        have hbd := Utf.runeTo_lt (by rw [← HN.out]; omega) h4 HF.out
        have HBD := Lib.hid hbd
        have hr1 : Utf.runeTo s a 1 = (s[a].toNat : Int) - Utf.offN k := by show (Utf.byteAt s a : Int) - Utf.offN (Utf.wideAt s a) = _; rw [HB.out, ← HN.out]
        have HR1 := Lib.hid hr1
        have hend : Utf.okAt s a := ⟨by rw [← HN.out]; omega, by rw [← HN.out]; exact HF.out⟩
        have hfin : Utf.runeAt s a = Utf.runeTo s a k := by unfold Utf.runeAt; rw [← HN.out]
        have HFIN := Lib.hid hfin
        have HEND := Lib.hid hend
        clear hbd hr1 hfin hend
        have h4' : k = 1 ∨ k = 2 ∨ k = 3 ∨ k = 4 := by omega
        have hb' : (s[a].toNat : Int) < 256 := by omega
        rcases h4' with rfl | rfl | rfl | rfl
        · go_wp2
          go_loop [11, 12] (fun x i => ∃ j : Nat, 1 ≤ j ∧ j ≤ 1 ∧ i = .int .i64 j ∧ x = .int .i64 (Utf.runeTo s a j)) (fun _ i => 1 - (intOf i).toNat)
          case atStart => exact ⟨1, by omega, by omega, rfl, by rw [HR1.out]; simp [Utf.offN]⟩
          case round =>
            obtain ⟨j, hj1, hj2, rfl, rfl⟩ := hrel
            have hx1 := (HBD.out j hj1 hj2).1
            have hx2 := (HBD.out j hj1 hj2).2
            by_cases hjn : j < 1
            · omega
            · have hj : j = 1 := by omega
              subst hj
              have HX2 := Lib.hid hx2
              go_wp2
              refine bodyPost_ret (results_tmp4 rfl _ _ _) rfl ⟨.inl ⟨HEND.out, ?_⟩, rfl⟩
              simp [HFIN.out, ← HN.out]
        · go_wp2
          go_loop [11, 12] (fun x i => ∃ j : Nat, 1 ≤ j ∧ j ≤ 2 ∧ i = .int .i64 j ∧ x = .int .i64 (Utf.runeTo s a j)) (fun _ i => 2 - (intOf i).toNat)
          case atStart => exact ⟨1, by omega, by omega, rfl, by rw [HR1.out]; simp [Utf.offN]⟩
          case round =>
            obtain ⟨j, hj1, hj2, rfl, rfl⟩ := hrel
            have hx1 := (HBD.out j hj1 hj2).1
            have hx2 := (HBD.out j hj1 hj2).2
            by_cases hjn : j < 2
            · have hsz := (HF.out j hj1 hjn).1
              have hbj : (s[a + j].toNat : Int) < 256 := by have := UInt8.toNat_lt s[a + j]; omega
              have hnext : Utf.runeTo s a (j + 1) = 64 * Utf.runeTo s a j + s[a + j].toNat - 128 := by
                obtain ⟨j', rfl⟩ : ∃ j', j = j' + 1 := ⟨j - 1, by omega⟩
                rw [← Utf.byteAt_eq hsz]; rfl
              have HNEXT := Lib.hid hnext
              clear hnext
              go_wp2
              go_round
              case rel => exact ⟨j + 1, by omega, by omega, by go_num, by rw [HNEXT.out]⟩
              case measure => simp [intOf]; omega
            · have hj : j = 2 := by omega
              subst hj
              have HX2 := Lib.hid hx2
              go_wp2
              refine bodyPost_ret (results_tmp4 rfl _ _ _) rfl ⟨.inl ⟨HEND.out, ?_⟩, rfl⟩
              simp [HFIN.out, ← HN.out]
        · go_wp2
          go_loop [11, 12] (fun x i => ∃ j : Nat, 1 ≤ j ∧ j ≤ 3 ∧ i = .int .i64 j ∧ x = .int .i64 (Utf.runeTo s a j)) (fun _ i => 3 - (intOf i).toNat)
          case atStart => exact ⟨1, by omega, by omega, rfl, by rw [HR1.out]; simp [Utf.offN]⟩
          case round =>
            obtain ⟨j, hj1, hj2, rfl, rfl⟩ := hrel
            have hx1 := (HBD.out j hj1 hj2).1
            have hx2 := (HBD.out j hj1 hj2).2
            by_cases hjn : j < 3
            · have hsz := (HF.out j hj1 hjn).1
              have hbj : (s[a + j].toNat : Int) < 256 := by have := UInt8.toNat_lt s[a + j]; omega
              have hnext : Utf.runeTo s a (j + 1) = 64 * Utf.runeTo s a j + s[a + j].toNat - 128 := by
                obtain ⟨j', rfl⟩ : ∃ j', j = j' + 1 := ⟨j - 1, by omega⟩
                rw [← Utf.byteAt_eq hsz]; rfl
              have HNEXT := Lib.hid hnext
              clear hnext
              go_wp2
              go_round
              case rel => exact ⟨j + 1, by omega, by omega, by go_num, by rw [HNEXT.out]⟩
              case measure => simp [intOf]; omega
            · have hj : j = 3 := by omega
              subst hj
              have HX2 := Lib.hid hx2
              go_wp2
              refine bodyPost_ret (results_tmp4 rfl _ _ _) rfl ⟨.inl ⟨HEND.out, ?_⟩, rfl⟩
              simp [HFIN.out, ← HN.out]
        · go_wp2
          go_loop [11, 12] (fun x i => ∃ j : Nat, 1 ≤ j ∧ j ≤ 4 ∧ i = .int .i64 j ∧ x = .int .i64 (Utf.runeTo s a j)) (fun _ i => 4 - (intOf i).toNat)
          case atStart => exact ⟨1, by omega, by omega, rfl, by rw [HR1.out]; simp [Utf.offN]⟩
          case round =>
            obtain ⟨j, hj1, hj2, rfl, rfl⟩ := hrel
            have hx1 := (HBD.out j hj1 hj2).1
            have hx2 := (HBD.out j hj1 hj2).2
            by_cases hjn : j < 4
            · have hsz := (HF.out j hj1 hjn).1
              have hbj : (s[a + j].toNat : Int) < 256 := by have := UInt8.toNat_lt s[a + j]; omega
              have hnext : Utf.runeTo s a (j + 1) = 64 * Utf.runeTo s a j + s[a + j].toNat - 128 := by
                obtain ⟨j', rfl⟩ : ∃ j', j = j' + 1 := ⟨j - 1, by omega⟩
                rw [← Utf.byteAt_eq hsz]; rfl
              have HNEXT := Lib.hid hnext
              clear hnext
              go_wp2
              go_round
              case rel => exact ⟨j + 1, by omega, by omega, by go_num, by rw [HNEXT.out]⟩
              case measure => simp [intOf]; omega
            · have hj : j = 4 := by omega
              subst hj
              have HX2 := Lib.hid hx2
              go_wp2
              refine bodyPost_ret (results_tmp4 rfl _ _ _) rfl ⟨.inl ⟨HEND.out, ?_⟩, rfl⟩
              simp [HFIN.out, ← HN.out]
end Go.Proofs.YtfdhgakalojahaaGreatDoor

namespace Go.Proofs.YtfdhgakalojahaaGreatDoor
open Go.RowKit
theorem r3_At_ok (s : ByteArray) (a : Nat) (w : World) (hs : s.size ≤ 2147483648) (h : a < s.size) (hok : Utf.okB s a = true) :
    Calls Tryz.prog 111 #[.string s, .int .i64 a] w fun e w' =>
      e = .returned (.tuple #[.int .i32 (Utf.runeAt s a), .int .i64 (Utf.wideAt s a), .int .i64 0, .int .i64 0]) ∧ w = w' :=
  (r3_At s a w hs h).mono fun e w' ⟨h1, h2⟩ => by
    rcases h1 with ⟨_, h1⟩ | ⟨h1, _⟩
    · exact ⟨h1, h2⟩
    · exact (h1 ((Utf.okB_iff h).1 hok)).elim

theorem r3_At_no (s : ByteArray) (a : Nat) (w : World) (hs : s.size ≤ 2147483648) (h : a < s.size) (hok : Utf.okB s a = false) :
    Calls Tryz.prog 111 #[.string s, .int .i64 a] w fun e w' =>
      ∃ x y : Int, (x == 0) = false ∧ e = .returned (.tuple #[.int .i32 0, .int .i64 0, .int .i64 x, .int .i64 y]) ∧ w = w' :=
  (r3_At s a w hs h).mono fun e w' ⟨h1, h2⟩ => by
    rcases h1 with ⟨h1, _⟩ | ⟨_, x, y, hx, h1⟩
    · rw [(Utf.okB_iff h).2 h1] at hok; cases hok
    · exact ⟨x, y, by simpa using hx, h1, h2⟩

def WrongPost (s : ByteArray) (w : World) (e : Ending) (w' : World) : Prop :=
  (∃ x y : Int, (x == 0) = Utf.rightB s ∧ e = .returned (.tuple #[.int .i64 x, .int .i64 y])) ∧ w = w'

set_option maxRecDepth 100000 in
set_option maxHeartbeats 400000 in
theorem r3_Wrong (s : ByteArray) (w : World) (hs : s.size ≤ 2147483648) :
    Calls Tryz.prog 88 #[.string s] w (WrongPost s w) := by
  go_enter Tryz.func88, Tryz.ntmps88
  go_wp2_with fail
  go_loop [4] (fun i => ∃ p k : Nat, p ≤ s.size ∧ s.size ≤ p + k ∧ i = .int .i64 p ∧ (Utf.runesF s k p).isSome = Utf.rightB s) (fun i => s.size - (intOf i).toNat)
  case atStart => exact ⟨0, s.size, by omega, by omega, rfl, rfl⟩
  case round =>
    obtain ⟨p, k, hp, hk, rfl, hr⟩ := hrel
    have HR := Lib.hid hr
    clear hr
    by_cases hlt : p < s.size
    · obtain ⟨j, rfl⟩ : ∃ j, k = j + 1 := ⟨k - 1, by omega⟩
      by_cases hok : Utf.okB s p = true
      · have h0 := ((Utf.okB_iff hlt).1 hok).1
        have h1 : p + Utf.wideAt s p ≤ s.size := by
          have := hok; unfold Utf.okB at this; simp only [Bool.and_eq_true, decide_eq_true_eq] at this; omega
        have h2 : 1 ≤ Utf.wideAt s p := by omega
        have HOK := Lib.hid hok
        have hn : (Utf.runesF s j (p + Utf.wideAt s p)).isSome = Utf.rightB s := by
          rw [← HR.out]; simp [Utf.runesF, hok, show ¬ s.size ≤ p by omega]
        have HN := Lib.hid hn
        clear hn h0 hok
        go_wp2_with (first | (go_at_call 111; refine (r3_At_ok _ _ _ hs hlt HOK.out).mono ?_; rintro e w' ⟨rfl, rfl⟩))
        go_round
        case rel => exact ⟨p + Utf.wideAt s p, j, h1, by omega, by go_num, HN.out⟩
        case measure => simp [intOf]; omega
      · have hok' : Utf.okB s p = false := by simpa using hok
        have hn : Utf.rightB s = false := by rw [← HR.out]; simp [Utf.runesF, hok', show ¬ s.size ≤ p by omega]
        have HN := Lib.hid hn
        have HOK := Lib.hid hok'
        clear hn hok hok'
        go_wp2_with (first | (go_at_call 111; refine (r3_At_no _ _ _ hs hlt HOK.out).mono ?_; rintro e w' ⟨x, y, hx, rfl, rfl⟩))
        go_ret2
        exact ⟨⟨_, _, by rw [HN.out]; assumption, rfl⟩, rfl⟩
    · have hn : Utf.rightB s = true := by rw [← HR.out]; cases k <;> simp [Utf.runesF, show s.size ≤ p by omega]
      have HN := Lib.hid hn
      clear hn
      go_wp2
      go_ret2
      exact ⟨⟨0, 0, by rw [HN.out]; rfl, rfl⟩, rfl⟩

set_option maxRecDepth 100000 in
set_option maxHeartbeats 400000 in
theorem r3_Right (s : ByteArray) (w : World) (hs : s.size ≤ 2147483648) :
    Calls Tryz.prog 47 #[.string s] w fun e w' => e = .returned (.bool (Utf.rightB s)) ∧ w = w' := by
  go_enter Tryz.func47, Tryz.ntmps47
  go_wp2_with (first | (go_at_call 88; refine (r3_Wrong _ _ hs).mono ?_; rintro e w' ⟨⟨x, y, hx, rfl⟩, rfl⟩))
  go_ret
  exact ⟨by simpa using ret_bool ‹_›, rfl⟩
end Go.Proofs.YtfdhgakalojahaaGreatDoor

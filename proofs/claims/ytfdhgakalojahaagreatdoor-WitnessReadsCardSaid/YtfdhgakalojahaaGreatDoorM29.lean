/- WALKS: the program's layer 10: a maker of values. WALKS: the program's layer 10: a value within a tree. -/
import Derived.StillTailTactics
import Derived.Outline
import Derived.Deep.RegionWith
import Derived.Test.YtfdhgakalojahaaGreatDoorM23
import Derived.Test.YtfdhgakalojahaaGreatDoorM28
set_option linter.unusedSimpArgs false
set_option linter.unusedVariables false
set_option linter.unnecessarySimpa false
set_option linter.unusedSectionVars false
namespace Go.Proofs.YtfdhgakalojahaaGreatDoor
open Go Go.RowKit Tree

theorem DoPost.after {F : Nat → Prop} {T : TypeId} {b : Nat} {sv : Value} {l : List Tr} {w w1 w' : World} {e : Ending} (h1 : Chg w w1 []) (h : DoPost F T b sv l w1 e w') : DoPost F T b sv l w e w' := by
  obtain ⟨h0, F', sv', vs', a, c, d, g⟩ := h
  exact ⟨h0, F', sv', vs', a, fun k hk hlt => c k hk (Nat.lt_of_lt_of_le hlt h1.size), d, (h1.none _).trans g⟩

theorem node_New (w : World) : Calls Tryz.prog 17 #[] w fun e w' => e = .returned (.pointer (some ⟨w.heap.size, 0, none⟩)) ∧ w.alloc (.cells #[.slice none 0 0] 111) = w' := by
  go_enter Tryz.func17, Tryz.ntmps17
  go_wp2
  go_ret
  exact ⟨rfl, rfl⟩

set_option maxRecDepth 100000 in
theorem maker_step (F : Nat → Prop) (T : TypeId) (b : Nat) (sv : Value) (l l' : List Tr) (vs : List Value) (w : World) (hM : MkAt w F T b sv l vs) (hl : l.length < 65536) (sort : Int) (flag : Bool) (bits : Nat) (text : ByteArray) (count : Int) (keys : Value)
    (hk : ∃ ka kn kc, keys = .slice ka kn kc)
    (hdo : ∀ w1, Chg w w1 [] → MkAt w1 F T b sv l vs → Calls Tryz.prog 41 #[.pointer (some ⟨b, 0, none⟩), StpV sort flag bits text count keys] w1 (DoPost F T b sv l' w1)) :
    Calls Tryz.prog 45 #[.pointer (some ⟨b, 0, none⟩), StpV sort flag bits text count keys] w (DoPost F T b sv l' w) := by
  obtain ⟨a, cap, rfl, ha⟩ := hM.lst.form
  obtain ⟨ka, kn, kc, rfl⟩ := hk
  have c0 : w.cell? ⟨b, 0, none⟩ = some (.slice a vs.length cap) := hM.blk.cell 0
  have hvl : vs.length < 65536 := by rw [hM.items.length]; exact hl
  have h1 : decide (65536 ≤ (vs.length : Int)) = false := by simp; omega
  have HD := Lib.hid hdo
  have HMk := Lib.hid hM
  have lb := hM.blk.lt
  clear hdo hM ha
  unfold StpV at HD ⊢
  have HG := Lib.hid ((Chg.refl w []).alloc (.cells #[.int .i64 sort, .bool flag, .int .u64 bits, .string text, .int .i64 count, .slice ka kn kc] 48))
  have hd := (HD.out _ HG.out.drew (HMk.out.kept HG.out.drew))
  have HDD := Lib.hid hd
  clear hd
  by_cases hs : sort < 5
  all_goals
    go_enter Tryz.func45, Tryz.ntmps45
    go_wp2
    go_region_with (first | (go_at_call 41; refine HDD.out.mono ?_; rintro e w1 ⟨rfl, hP⟩))
    go_wp2
    go_ret
    exact DoPost.after HG.out.drew ⟨rfl, hP⟩

set_option maxRecDepth 100000 in
theorem maker_Text (F : Nat → Prop) (T : TypeId) (b : Nat) (sv : Value) (l : List Tr) (vs : List Value) (w : World) (hM : MkAt w F T b sv l vs) (hl : l.length < 65536) (s : ByteArray) (hr : Utf.rightB s = true) (hw : (szT (.text s)).within = true) (hs : s.size ≤ 2147483648) :
    Calls Tryz.prog 18 #[.pointer (some ⟨b, 0, none⟩), .string s] w (DoPost F T b sv (l ++ [.text s]) w) := by
  have HMk := Lib.hid hM
  have HR := Lib.hid hr
  have HW := Lib.hid hw
  clear hM hr hw
  go_enter Tryz.func18, Tryz.ntmps18
  go_wp2_with (first | (go_at_call 45; go_loud (refine (maker_step F T b sv l _ vs _ HMk.out hl 4 false 0 s 0 (.slice none 0 0) ⟨_, _, _, rfl⟩ (fun w1 _ hM1 => node_do_text_ok F T b sv l vs s _ w1 hM1 ⟨_, _, rfl⟩ HR.out HW.out (by omega) hs)).mono ?_; rintro e w1 ⟨rfl, hP⟩)))
  go_ret
  exact ⟨rfl, hP⟩

set_option maxRecDepth 100000 in
theorem maker_Number (F : Nat → Prop) (T : TypeId) (b : Nat) (sv : Value) (l : List Tr) (vs : List Value) (w : World) (hM : MkAt w F T b sv l vs) (hl : l.length < 65536) (n : Nat) (hn : n < 18446744073709551616) (hf : Fl.finB n = true) :
    Calls Tryz.prog 20 #[.pointer (some ⟨b, 0, none⟩), .float .f64 n] w (DoPost F T b sv (l ++ [.num (normB n)]) w) := by
  have HMk := Lib.hid hM
  have HN := Lib.hid hn
  have HF := Lib.hid hf
  have htb := run_tobits
  clear hM hn hf
  go_enter Tryz.func20, Tryz.ntmps20
  go_wp2_with (first | (go_at_call 45; go_loud (refine (maker_step F T b sv l _ vs _ HMk.out hl 3 false n ⟨#[]⟩ 0 (.slice none 0 0) ⟨_, _, _, rfl⟩ (fun w1 _ hM1 => node_do_num_ok F T b sv l vs n _ w1 hM1 ⟨_, _, rfl⟩ HN.out HF.out (by omega))).mono ?_; rintro e w1 ⟨rfl, hP⟩)))
  go_ret
  exact ⟨rfl, hP⟩

set_option maxRecDepth 100000 in
theorem maker_Object (F : Nat → Prop) (T : TypeId) (b : Nat) (sv : Value) (l : List Tr) (vs : List Value) (keys : Value) (w : World) (hM : MkAt w F T b sv l vs) (G : Nat → Prop) (ks : List ByteArray)
    (hK : RowAt w G keys (strs ks)) (hG : ∀ k, G k → k < w.heap.size) (hr : ∀ s ∈ ks, Utf.rightB s = true) (hs : ∀ s ∈ ks, s.size ≤ 2147483648) (hnd : ks.Nodup) (hby : (ks.map ByteArray.size).sum ≤ 1099511627776) (hF : Fits l) (hn : ks.length ≤ l.length) (hl : l.length < 65536)
    (hw : (szT (objT ks (l.drop (l.length - ks.length)))).within = true) :
    Calls Tryz.prog 21 #[.pointer (some ⟨b, 0, none⟩), keys] w (DoPost F T b sv (l.take (l.length - ks.length) ++ [objT ks (l.drop (l.length - ks.length))]) w) := by
  obtain ⟨ka, kc, rfl, _⟩ := hK.cell
  have HMk := Lib.hid hM
  have HK := Lib.hid hK
  have HG := Lib.hid hG
  have HR := Lib.hid hr
  have HS := Lib.hid hs
  have HND := Lib.hid hnd
  have HF := Lib.hid hF
  have HW := Lib.hid hw
  clear hM hK hG hr hs hnd hF hw
  go_enter Tryz.func21, Tryz.ntmps21
  go_wp2_with (first | (go_at_call 45; go_loud (refine (maker_step F T b sv l _ vs _ HMk.out hl 6 false 0 ⟨#[]⟩ 0 (.slice ka (strs ks).length kc) ⟨_, _, _, rfl⟩ (fun w1 h1 hM1 => node_do_obj_ok F T b sv l vs _ w1 hM1 G ks (HK.out.kept (h1.keepsF HG.out (by simp)) (fun _ h => h)) (fun k hk => Nat.lt_of_lt_of_le (HG.out k hk) h1.size) HR.out HS.out (by omega) HND.out hby HF.out hn (by omega) HW.out)).mono ?_; rintro e w1 ⟨rfl, hP⟩)))
  go_ret
  exact ⟨rfl, hP⟩

/-- a tree's block -/
def TreeAt (w : World) (F : Nat → Prop) (tb : Nat) (t : Tr) : Prop := ∃ v, w.cell? ⟨tb, 0, none⟩ = some v ∧ ItemAt w F t v ∧ tb < w.heap.size

set_option maxRecDepth 100000 in
theorem maker_Tree (F : Nat → Prop) (T : TypeId) (b : Nat) (sv : Value) (t : Tr) (vs : List Value) (w : World) (hM : MkAt w F T b sv [t] vs) :
    Calls Tryz.prog 22 #[.pointer (some ⟨b, 0, none⟩)] w fun e w' => e = .returned (.tuple #[.pointer (some ⟨w.heap.size, 0, none⟩), .nilIface]) ∧ Chg w w' [] ∧ TreeAt w' F w.heap.size t := by
  obtain ⟨a, cap, rfl, ha⟩ := hM.lst.form
  have hi := hM.items
  simp only [ItemsAt] at hi
  obtain ⟨v, r, rfl, hit, rfl⟩ := hi
  obtain ⟨g, rfl⟩ := ha (by simp)
  obtain ⟨ti, x, rfl⟩ := hit.iface
  have c0 : w.cell? ⟨b, 0, none⟩ = some (.slice (some ⟨g, 0, none⟩) 1 cap) := hM.blk.cell 0
  have c1 : w.cell? ⟨g, 0, none⟩ = some (.iface ti x) := hM.lst.cell rfl 0 _ rfl
  have HIT := Lib.hid hit
  have HLT := Lib.hid hM.lt
  clear hM hit ha
  go_enter Tryz.func22, Tryz.ntmps22
  go_wp2
  go_ret2
  refine ⟨by first | rfl | simp, by (repeat (first | exact Chg.refl _ _ | with_reducible refine Chg.drewN ?_ _ | with_reducible refine Chg.drew ?_ | with_reducible refine Chg.alloc ?_ _ | with_reducible refine Chg.setCell ?_ _ _ (by simp) | with_reducible refine Chg.setCell ?_ _ _ (by simp; omega))), .iface ti x, cell_new rfl _ _, ItemAt.kept (((Chg.refl w []).alloc _).keepsF HLT.out (by simp)) (fun _ h => h) _ _ HIT.out, by simp⟩
end Go.Proofs.YtfdhgakalojahaaGreatDoor

namespace Go.Proofs.YtfdhgakalojahaaGreatDoor
open Go Go.RowKit Tree

def keysT : Tr → List ByteArray
  | .obj ks _ => ks
  | _ => []
def itemsT : Tr → List Tr
  | .list l => l
  | .obj _ l => l
  | _ => []
def textT : Tr → ByteArray
  | .text s => s
  | _ => ⟨#[]⟩
def isText : Tr → Bool
  | .text _ => true
  | _ => false
def numT : Tr → Nat
  | .num n => n
  | _ => 0
def isNum : Tr → Bool
  | .num _ => true
  | _ => false

theorem RowAt.empty (w : World) (F : Nat → Prop) : RowAt w F (.slice none 0 0) [] := .inl ⟨rfl, none, 0, rfl⟩

set_option maxRecDepth 100000 in
theorem ref_Text (F : Nat → Prop) (t : Tr) (v : Value) (w : World) (ht : ItemAt w F t v) :
    Calls Tryz.prog 29 #[.agg #[v]] w fun e w' => e = .returned (.tuple #[.string (textT t), .bool (isText t)]) ∧ Chg w w' [] := by
  have h1 : ∀ (s : ByteArray) (w : World), (Instr.typeAssert (.iface 120 (.string s)) 72 120 true).run Tryz.prog w = .ok (.tuple #[.string s, .bool true]) w := fun _ _ => by kernel_rfl
  have h2 : ∀ (w : World), (Instr.typeAssert (.iface 141 (.agg #[])) 72 120 true).run Tryz.prog w = .ok (.tuple #[.string ⟨#[]⟩, .bool false]) w := fun _ => by kernel_rfl
  have h3 : ∀ (s : Bool) (w : World), (Instr.typeAssert (.iface 142 (.bool s)) 72 120 true).run Tryz.prog w = .ok (.tuple #[.string ⟨#[]⟩, .bool false]) w := fun _ _ => by kernel_rfl
  have h4 : ∀ (s : Nat) (w : World), (Instr.typeAssert (.iface 146 (.float .f64 s)) 72 120 true).run Tryz.prog w = .ok (.tuple #[.string ⟨#[]⟩, .bool false]) w := fun _ _ => by kernel_rfl
  have h5 : ∀ (s : Option Addr) (w : World), (Instr.typeAssert (.iface 149 (.pointer s)) 72 120 true).run Tryz.prog w = .ok (.tuple #[.string ⟨#[]⟩, .bool false]) w := fun _ _ => by kernel_rfl
  have h6 : ∀ (s : Option Addr) (w : World), (Instr.typeAssert (.iface 174 (.pointer s)) 72 120 true).run Tryz.prog w = .ok (.tuple #[.string ⟨#[]⟩, .bool false]) w := fun _ _ => by kernel_rfl
  cases t with
  | null => simp only [ItemAt] at ht; subst ht; go_enter Tryz.func29, Tryz.ntmps29; go_wp2; go_ret2; exact ⟨rfl, by (repeat (first | exact Chg.refl _ _ | with_reducible refine Chg.drewN ?_ _ | with_reducible refine Chg.drew ?_ | with_reducible refine Chg.alloc ?_ _ | with_reducible refine Chg.setCell ?_ _ _ (by simp) | with_reducible refine Chg.setCell ?_ _ _ (by simp; omega)))⟩
  | flag b => simp only [ItemAt] at ht; subst ht; go_enter Tryz.func29, Tryz.ntmps29; go_wp2; go_ret2; exact ⟨rfl, by (repeat (first | exact Chg.refl _ _ | with_reducible refine Chg.drewN ?_ _ | with_reducible refine Chg.drew ?_ | with_reducible refine Chg.alloc ?_ _ | with_reducible refine Chg.setCell ?_ _ _ (by simp) | with_reducible refine Chg.setCell ?_ _ _ (by simp; omega)))⟩
  | num b => simp only [ItemAt] at ht; subst ht; go_enter Tryz.func29, Tryz.ntmps29; go_wp2; go_ret2; exact ⟨rfl, by (repeat (first | exact Chg.refl _ _ | with_reducible refine Chg.drewN ?_ _ | with_reducible refine Chg.drew ?_ | with_reducible refine Chg.alloc ?_ _ | with_reducible refine Chg.setCell ?_ _ _ (by simp) | with_reducible refine Chg.setCell ?_ _ _ (by simp; omega)))⟩
  | text b => simp only [ItemAt] at ht; subst ht; go_enter Tryz.func29, Tryz.ntmps29; go_wp2; go_ret2; exact ⟨rfl, by (repeat (first | exact Chg.refl _ _ | with_reducible refine Chg.drewN ?_ _ | with_reducible refine Chg.drew ?_ | with_reducible refine Chg.alloc ?_ _ | with_reducible refine Chg.setCell ?_ _ _ (by simp) | with_reducible refine Chg.setCell ?_ _ _ (by simp; omega)))⟩
  | list l => simp only [ItemAt] at ht; obtain ⟨b, sl, vs, rfl, _⟩ := ht; go_enter Tryz.func29, Tryz.ntmps29; go_wp2; go_ret2; exact ⟨rfl, by (repeat (first | exact Chg.refl _ _ | with_reducible refine Chg.drewN ?_ _ | with_reducible refine Chg.drew ?_ | with_reducible refine Chg.alloc ?_ _ | with_reducible refine Chg.setCell ?_ _ _ (by simp) | with_reducible refine Chg.setCell ?_ _ _ (by simp; omega)))⟩
  | obj ks l => simp only [ItemAt] at ht; obtain ⟨b, sk, sl, vs, rfl, _⟩ := ht; go_enter Tryz.func29, Tryz.ntmps29; go_wp2; go_ret2; exact ⟨rfl, by (repeat (first | exact Chg.refl _ _ | with_reducible refine Chg.drewN ?_ _ | with_reducible refine Chg.drew ?_ | with_reducible refine Chg.alloc ?_ _ | with_reducible refine Chg.setCell ?_ _ _ (by simp) | with_reducible refine Chg.setCell ?_ _ _ (by simp; omega)))⟩

set_option maxRecDepth 100000 in
theorem ref_Number (F : Nat → Prop) (t : Tr) (v : Value) (w : World) (ht : ItemAt w F t v) :
    Calls Tryz.prog 55 #[.agg #[v]] w fun e w' => e = .returned (.tuple #[.float .f64 (numT t), .bool (isNum t)]) ∧ Chg w w' [] := by
  have h1 : ∀ (s : ByteArray) (w : World), (Instr.typeAssert (.iface 120 (.string s)) 72 146 true).run Tryz.prog w = .ok (.tuple #[.float .f64 0, .bool false]) w := fun _ _ => by kernel_rfl
  have h2 : ∀ (w : World), (Instr.typeAssert (.iface 141 (.agg #[])) 72 146 true).run Tryz.prog w = .ok (.tuple #[.float .f64 0, .bool false]) w := fun _ => by kernel_rfl
  have h3 : ∀ (s : Bool) (w : World), (Instr.typeAssert (.iface 142 (.bool s)) 72 146 true).run Tryz.prog w = .ok (.tuple #[.float .f64 0, .bool false]) w := fun _ _ => by kernel_rfl
  have h4 : ∀ (s : Nat) (w : World), (Instr.typeAssert (.iface 146 (.float .f64 s)) 72 146 true).run Tryz.prog w = .ok (.tuple #[.float .f64 s, .bool true]) w := fun _ _ => by kernel_rfl
  have h5 : ∀ (s : Option Addr) (w : World), (Instr.typeAssert (.iface 149 (.pointer s)) 72 146 true).run Tryz.prog w = .ok (.tuple #[.float .f64 0, .bool false]) w := fun _ _ => by kernel_rfl
  have h6 : ∀ (s : Option Addr) (w : World), (Instr.typeAssert (.iface 174 (.pointer s)) 72 146 true).run Tryz.prog w = .ok (.tuple #[.float .f64 0, .bool false]) w := fun _ _ => by kernel_rfl
  cases t with
  | null => simp only [ItemAt] at ht; subst ht; go_enter Tryz.func55, Tryz.ntmps55; go_wp2; go_ret2; exact ⟨rfl, by (repeat (first | exact Chg.refl _ _ | with_reducible refine Chg.drewN ?_ _ | with_reducible refine Chg.drew ?_ | with_reducible refine Chg.alloc ?_ _ | with_reducible refine Chg.setCell ?_ _ _ (by simp) | with_reducible refine Chg.setCell ?_ _ _ (by simp; omega)))⟩
  | flag b => simp only [ItemAt] at ht; subst ht; go_enter Tryz.func55, Tryz.ntmps55; go_wp2; go_ret2; exact ⟨rfl, by (repeat (first | exact Chg.refl _ _ | with_reducible refine Chg.drewN ?_ _ | with_reducible refine Chg.drew ?_ | with_reducible refine Chg.alloc ?_ _ | with_reducible refine Chg.setCell ?_ _ _ (by simp) | with_reducible refine Chg.setCell ?_ _ _ (by simp; omega)))⟩
  | num b => simp only [ItemAt] at ht; subst ht; go_enter Tryz.func55, Tryz.ntmps55; go_wp2; go_ret2; exact ⟨rfl, by (repeat (first | exact Chg.refl _ _ | with_reducible refine Chg.drewN ?_ _ | with_reducible refine Chg.drew ?_ | with_reducible refine Chg.alloc ?_ _ | with_reducible refine Chg.setCell ?_ _ _ (by simp) | with_reducible refine Chg.setCell ?_ _ _ (by simp; omega)))⟩
  | text b => simp only [ItemAt] at ht; subst ht; go_enter Tryz.func55, Tryz.ntmps55; go_wp2; go_ret2; exact ⟨rfl, by (repeat (first | exact Chg.refl _ _ | with_reducible refine Chg.drewN ?_ _ | with_reducible refine Chg.drew ?_ | with_reducible refine Chg.alloc ?_ _ | with_reducible refine Chg.setCell ?_ _ _ (by simp) | with_reducible refine Chg.setCell ?_ _ _ (by simp; omega)))⟩
  | list l => simp only [ItemAt] at ht; obtain ⟨b, sl, vs, rfl, _⟩ := ht; go_enter Tryz.func55, Tryz.ntmps55; go_wp2; go_ret2; exact ⟨rfl, by (repeat (first | exact Chg.refl _ _ | with_reducible refine Chg.drewN ?_ _ | with_reducible refine Chg.drew ?_ | with_reducible refine Chg.alloc ?_ _ | with_reducible refine Chg.setCell ?_ _ _ (by simp) | with_reducible refine Chg.setCell ?_ _ _ (by simp; omega)))⟩
  | obj ks l => simp only [ItemAt] at ht; obtain ⟨b, sk, sl, vs, rfl, _⟩ := ht; go_enter Tryz.func55, Tryz.ntmps55; go_wp2; go_ret2; exact ⟨rfl, by (repeat (first | exact Chg.refl _ _ | with_reducible refine Chg.drewN ?_ _ | with_reducible refine Chg.drew ?_ | with_reducible refine Chg.alloc ?_ _ | with_reducible refine Chg.setCell ?_ _ _ (by simp) | with_reducible refine Chg.setCell ?_ _ _ (by simp; omega)))⟩

def KeysPost (F : Nat → Prop) (t : Tr) (w : World) (e : Ending) (w' : World) : Prop := ∃ sk, e = .returned sk ∧ RowAt w' F sk (strs (keysT t)) ∧ Chg w w' []

set_option maxRecDepth 100000 in
theorem ref_keys (F : Nat → Prop) (t : Tr) (v : Value) (w : World) (ht : ItemAt w F t v) (hF : ∀ k, F k → k < w.heap.size) :
    Calls Tryz.prog 50 #[.agg #[v]] w (KeysPost F t w) := by
  have h1 : ∀ (s : ByteArray) (w : World), (Instr.typeAssert (.iface 120 (.string s)) 72 174 true).run Tryz.prog w = .ok (.tuple #[.pointer none, .bool false]) w := fun _ _ => by kernel_rfl
  have h2 : ∀ (w : World), (Instr.typeAssert (.iface 141 (.agg #[])) 72 174 true).run Tryz.prog w = .ok (.tuple #[.pointer none, .bool false]) w := fun _ => by kernel_rfl
  have h3 : ∀ (s : Bool) (w : World), (Instr.typeAssert (.iface 142 (.bool s)) 72 174 true).run Tryz.prog w = .ok (.tuple #[.pointer none, .bool false]) w := fun _ _ => by kernel_rfl
  have h4 : ∀ (s : Nat) (w : World), (Instr.typeAssert (.iface 146 (.float .f64 s)) 72 174 true).run Tryz.prog w = .ok (.tuple #[.pointer none, .bool false]) w := fun _ _ => by kernel_rfl
  have h5 : ∀ (s : Option Addr) (w : World), (Instr.typeAssert (.iface 149 (.pointer s)) 72 174 true).run Tryz.prog w = .ok (.tuple #[.pointer none, .bool false]) w := fun _ _ => by kernel_rfl
  have h6 : ∀ (s : Option Addr) (w : World), (Instr.typeAssert (.iface 174 (.pointer s)) 72 174 true).run Tryz.prog w = .ok (.tuple #[.pointer s, .bool true]) w := fun _ _ => by kernel_rfl
  cases t with
  | null => simp only [ItemAt] at ht; subst ht; go_enter Tryz.func50, Tryz.ntmps50; go_wp2; go_ret; exact ⟨_, rfl, RowAt.empty _ _, by (repeat (first | exact Chg.refl _ _ | with_reducible refine Chg.drewN ?_ _ | with_reducible refine Chg.drew ?_ | with_reducible refine Chg.alloc ?_ _ | with_reducible refine Chg.setCell ?_ _ _ (by simp) | with_reducible refine Chg.setCell ?_ _ _ (by simp; omega)))⟩
  | flag b => simp only [ItemAt] at ht; subst ht; go_enter Tryz.func50, Tryz.ntmps50; go_wp2; go_ret; exact ⟨_, rfl, RowAt.empty _ _, by (repeat (first | exact Chg.refl _ _ | with_reducible refine Chg.drewN ?_ _ | with_reducible refine Chg.drew ?_ | with_reducible refine Chg.alloc ?_ _ | with_reducible refine Chg.setCell ?_ _ _ (by simp) | with_reducible refine Chg.setCell ?_ _ _ (by simp; omega)))⟩
  | num b => simp only [ItemAt] at ht; subst ht; go_enter Tryz.func50, Tryz.ntmps50; go_wp2; go_ret; exact ⟨_, rfl, RowAt.empty _ _, by (repeat (first | exact Chg.refl _ _ | with_reducible refine Chg.drewN ?_ _ | with_reducible refine Chg.drew ?_ | with_reducible refine Chg.alloc ?_ _ | with_reducible refine Chg.setCell ?_ _ _ (by simp) | with_reducible refine Chg.setCell ?_ _ _ (by simp; omega)))⟩
  | text b => simp only [ItemAt] at ht; subst ht; go_enter Tryz.func50, Tryz.ntmps50; go_wp2; go_ret; exact ⟨_, rfl, RowAt.empty _ _, by (repeat (first | exact Chg.refl _ _ | with_reducible refine Chg.drewN ?_ _ | with_reducible refine Chg.drew ?_ | with_reducible refine Chg.alloc ?_ _ | with_reducible refine Chg.setCell ?_ _ _ (by simp) | with_reducible refine Chg.setCell ?_ _ _ (by simp; omega)))⟩
  | list l => simp only [ItemAt] at ht; obtain ⟨b, sl, vs, rfl, _⟩ := ht; go_enter Tryz.func50, Tryz.ntmps50; go_wp2; go_ret; exact ⟨_, rfl, RowAt.empty _ _, by (repeat (first | exact Chg.refl _ _ | with_reducible refine Chg.drewN ?_ _ | with_reducible refine Chg.drew ?_ | with_reducible refine Chg.alloc ?_ _ | with_reducible refine Chg.setCell ?_ _ _ (by simp) | with_reducible refine Chg.setCell ?_ _ _ (by simp; omega)))⟩
  | obj ks l =>
    simp only [ItemAt] at ht
    obtain ⟨b, sk, sl, vs, rfl, hFb, _, _, _, _, c3, hk, _⟩ := ht
    have HK := Lib.hid hk
    have HF := Lib.hid hF
    have lb := hF b hFb
    clear hk hF
    go_enter Tryz.func50, Tryz.ntmps50
    go_wp2
    go_ret
    exact ⟨_, rfl, HK.out.kept (((Chg.refl w []).alloc _).keepsF HF.out (by simp)) (fun _ h => h), by (repeat (first | exact Chg.refl _ _ | with_reducible refine Chg.drewN ?_ _ | with_reducible refine Chg.drew ?_ | with_reducible refine Chg.alloc ?_ _ | with_reducible refine Chg.setCell ?_ _ _ (by simp) | with_reducible refine Chg.setCell ?_ _ _ (by simp; omega)))⟩

def ItemsPost (F : Nat → Prop) (t : Tr) (w : World) (e : Ending) (w' : World) : Prop := ∃ sl vs, e = .returned sl ∧ RowAt w' F sl vs ∧ ItemsAt w' F (itemsT t) vs ∧ Chg w w' []

set_option maxRecDepth 100000 in
theorem ref_items (F : Nat → Prop) (t : Tr) (v : Value) (w : World) (ht : ItemAt w F t v) (hF : ∀ k, F k → k < w.heap.size) :
    Calls Tryz.prog 53 #[.agg #[v]] w (ItemsPost F t w) := by
  have h1 : ∀ (s : ByteArray) (w : World), (Instr.typeAssert (.iface 120 (.string s)) 72 174 true).run Tryz.prog w = .ok (.tuple #[.pointer none, .bool false]) w := fun _ _ => by kernel_rfl
  have h2 : ∀ (w : World), (Instr.typeAssert (.iface 141 (.agg #[])) 72 174 true).run Tryz.prog w = .ok (.tuple #[.pointer none, .bool false]) w := fun _ => by kernel_rfl
  have h3 : ∀ (s : Bool) (w : World), (Instr.typeAssert (.iface 142 (.bool s)) 72 174 true).run Tryz.prog w = .ok (.tuple #[.pointer none, .bool false]) w := fun _ _ => by kernel_rfl
  have h4 : ∀ (s : Nat) (w : World), (Instr.typeAssert (.iface 146 (.float .f64 s)) 72 174 true).run Tryz.prog w = .ok (.tuple #[.pointer none, .bool false]) w := fun _ _ => by kernel_rfl
  have h5 : ∀ (s : Option Addr) (w : World), (Instr.typeAssert (.iface 149 (.pointer s)) 72 174 true).run Tryz.prog w = .ok (.tuple #[.pointer none, .bool false]) w := fun _ _ => by kernel_rfl
  have h6 : ∀ (s : Option Addr) (w : World), (Instr.typeAssert (.iface 174 (.pointer s)) 72 174 true).run Tryz.prog w = .ok (.tuple #[.pointer s, .bool true]) w := fun _ _ => by kernel_rfl
  have k1 : ∀ (s : ByteArray) (w : World), (Instr.typeAssert (.iface 120 (.string s)) 72 149 true).run Tryz.prog w = .ok (.tuple #[.pointer none, .bool false]) w := fun _ _ => by kernel_rfl
  have k2 : ∀ (w : World), (Instr.typeAssert (.iface 141 (.agg #[])) 72 149 true).run Tryz.prog w = .ok (.tuple #[.pointer none, .bool false]) w := fun _ => by kernel_rfl
  have k3 : ∀ (s : Bool) (w : World), (Instr.typeAssert (.iface 142 (.bool s)) 72 149 true).run Tryz.prog w = .ok (.tuple #[.pointer none, .bool false]) w := fun _ _ => by kernel_rfl
  have k4 : ∀ (s : Nat) (w : World), (Instr.typeAssert (.iface 146 (.float .f64 s)) 72 149 true).run Tryz.prog w = .ok (.tuple #[.pointer none, .bool false]) w := fun _ _ => by kernel_rfl
  have k5 : ∀ (s : Option Addr) (w : World), (Instr.typeAssert (.iface 149 (.pointer s)) 72 149 true).run Tryz.prog w = .ok (.tuple #[.pointer s, .bool true]) w := fun _ _ => by kernel_rfl
  have k6 : ∀ (s : Option Addr) (w : World), (Instr.typeAssert (.iface 174 (.pointer s)) 72 149 true).run Tryz.prog w = .ok (.tuple #[.pointer none, .bool false]) w := fun _ _ => by kernel_rfl
  cases t with
  | null => simp only [ItemAt] at ht; subst ht; go_enter Tryz.func53, Tryz.ntmps53; go_wp2; go_ret; exact ⟨_, [], rfl, RowAt.empty _ _, by simp [itemsT, ItemsAt], by (repeat (first | exact Chg.refl _ _ | with_reducible refine Chg.drewN ?_ _ | with_reducible refine Chg.drew ?_ | with_reducible refine Chg.alloc ?_ _ | with_reducible refine Chg.setCell ?_ _ _ (by simp) | with_reducible refine Chg.setCell ?_ _ _ (by simp; omega)))⟩
  | flag b => simp only [ItemAt] at ht; subst ht; go_enter Tryz.func53, Tryz.ntmps53; go_wp2; go_ret; exact ⟨_, [], rfl, RowAt.empty _ _, by simp [itemsT, ItemsAt], by (repeat (first | exact Chg.refl _ _ | with_reducible refine Chg.drewN ?_ _ | with_reducible refine Chg.drew ?_ | with_reducible refine Chg.alloc ?_ _ | with_reducible refine Chg.setCell ?_ _ _ (by simp) | with_reducible refine Chg.setCell ?_ _ _ (by simp; omega)))⟩
  | num b => simp only [ItemAt] at ht; subst ht; go_enter Tryz.func53, Tryz.ntmps53; go_wp2; go_ret; exact ⟨_, [], rfl, RowAt.empty _ _, by simp [itemsT, ItemsAt], by (repeat (first | exact Chg.refl _ _ | with_reducible refine Chg.drewN ?_ _ | with_reducible refine Chg.drew ?_ | with_reducible refine Chg.alloc ?_ _ | with_reducible refine Chg.setCell ?_ _ _ (by simp) | with_reducible refine Chg.setCell ?_ _ _ (by simp; omega)))⟩
  | text b => simp only [ItemAt] at ht; subst ht; go_enter Tryz.func53, Tryz.ntmps53; go_wp2; go_ret; exact ⟨_, [], rfl, RowAt.empty _ _, by simp [itemsT, ItemsAt], by (repeat (first | exact Chg.refl _ _ | with_reducible refine Chg.drewN ?_ _ | with_reducible refine Chg.drew ?_ | with_reducible refine Chg.alloc ?_ _ | with_reducible refine Chg.setCell ?_ _ _ (by simp) | with_reducible refine Chg.setCell ?_ _ _ (by simp; omega)))⟩
  | list l =>
    simp only [ItemAt] at ht
    obtain ⟨b, sl, vs, rfl, hFb, _, _, _, c3, hr, hi⟩ := ht
    have HR := Lib.hid hr
    have HI := Lib.hid hi
    have HF := Lib.hid hF
    have lb := hF b hFb
    clear hr hi hF
    go_enter Tryz.func53, Tryz.ntmps53
    go_wp2
    go_ret
    exact ⟨_, vs, rfl, HR.out.kept (((Chg.refl w []).alloc _).keepsF HF.out (by simp)) (fun _ h => h), ItemsAt.kept (((Chg.refl w []).alloc _).keepsF HF.out (by simp)) (fun _ h => h) _ _ HI.out, by (repeat (first | exact Chg.refl _ _ | with_reducible refine Chg.drewN ?_ _ | with_reducible refine Chg.drew ?_ | with_reducible refine Chg.alloc ?_ _ | with_reducible refine Chg.setCell ?_ _ _ (by simp) | with_reducible refine Chg.setCell ?_ _ _ (by simp; omega)))⟩
  | obj ks l =>
    simp only [ItemAt] at ht
    obtain ⟨b, sk, sl, vs, rfl, hFb, _, _, _, _, _, _, c4, hr, hi⟩ := ht
    have HR := Lib.hid hr
    have HI := Lib.hid hi
    have HF := Lib.hid hF
    have lb := hF b hFb
    clear hr hi hF
    go_enter Tryz.func53, Tryz.ntmps53
    go_wp2
    go_ret
    exact ⟨_, vs, rfl, HR.out.kept (((Chg.refl w []).alloc _).keepsF HF.out (by simp)) (fun _ h => h), ItemsAt.kept (((Chg.refl w []).alloc _).keepsF HF.out (by simp)) (fun _ h => h) _ _ HI.out, by (repeat (first | exact Chg.refl _ _ | with_reducible refine Chg.drewN ?_ _ | with_reducible refine Chg.drew ?_ | with_reducible refine Chg.alloc ?_ _ | with_reducible refine Chg.setCell ?_ _ _ (by simp) | with_reducible refine Chg.setCell ?_ _ _ (by simp; omega)))⟩

set_option maxRecDepth 100000 in
theorem ref_Len (F : Nat → Prop) (t : Tr) (v : Value) (w : World) (ht : ItemAt w F t v) (hF : ∀ k, F k → k < w.heap.size) :
    Calls Tryz.prog 27 #[.agg #[v]] w fun e w' => e = .returned (.int .i64 (itemsT t).length) ∧ Chg w w' [] := by
  have HT := Lib.hid ht
  have HF := Lib.hid hF
  obtain ⟨ti, x, rfl⟩ := ht.iface
  clear ht hF
  go_enter Tryz.func27, Tryz.ntmps27
  go_wp2_with (first | (go_at_call 53; go_loud (have h1 := ((Chg.refl w []).alloc (.cells #[.iface ti x] 74)); refine (ref_items F t _ _ (ItemAt.kept (h1.keepsF HF.out (by simp)) (fun _ h => h) _ _ HT.out) (fun k hk => Nat.lt_of_lt_of_le (HF.out k hk) h1.size)).mono ?_; rintro e w1 ⟨sl, vs, rfl, hr, hi, hg⟩; obtain ⟨a, c, rfl, _⟩ := hr.cell; rw [hi.length])))
  go_ret
  exact ⟨rfl, h1.trans hg⟩

theorem tree_Root (F : Nat → Prop) (tb : Nat) (v : Value) (w : World) (hc : w.cell? ⟨tb, 0, none⟩ = some v) (hi : ∃ ti x, v = .iface ti x) (hb : tb < w.heap.size) :
    Calls Tryz.prog 25 #[.pointer (some ⟨tb, 0, none⟩)] w fun e w' => e = .returned (.agg #[v]) ∧ Chg w w' [] := by
  obtain ⟨ti, x, rfl⟩ := hi
  go_enter Tryz.func25, Tryz.ntmps25
  go_wp2
  refine bodyPost_ret (v := .agg #[.iface ti x]) (by simp [results, Tryz.results25, go_sem]) rfl ⟨rfl, by (repeat (first | exact Chg.refl _ _ | with_reducible refine Chg.drewN ?_ _ | with_reducible refine Chg.drew ?_ | with_reducible refine Chg.alloc ?_ _ | with_reducible refine Chg.setCell ?_ _ _ (by simp) | with_reducible refine Chg.setCell ?_ _ _ (by simp; omega)))⟩
end Go.Proofs.YtfdhgakalojahaaGreatDoor

/- WALKS: the program's layer 10: a step of an object. -/
import Derived.Test.YtfdhgakalojahaaGreatDoorM30
import Derived.Test.YtfdhgakalojahaaGreatDoorM35
set_option linter.unusedSimpArgs false
set_option linter.unusedVariables false
set_option linter.unnecessarySimpa false
set_option linter.unusedSectionVars false
namespace Go.Proofs.YtfdhgakalojahaaGreatDoor
open Go Go.RowKit Tree

set_option maxRecDepth 100000 in
set_option maxHeartbeats 2000000 in
theorem node_do_obj_ok (F : Nat → Prop) (T : TypeId) (b : Nat) (sv : Value) (l : List Tr) (vs : List Value) (keys : Value) (w : World) (hM : MkAt w F T b sv l vs) (G : Nat → Prop) (ks : List ByteArray)
    (hK : RowAt w G keys (strs ks)) (hG : ∀ k, G k → k < w.heap.size) (hr : ∀ s ∈ ks, Utf.rightB s = true) (hs : ∀ s ∈ ks, s.size ≤ 2147483648) (hk : ks.length ≤ 65536) (hnd : ks.Nodup) (hby : (ks.map ByteArray.size).sum ≤ 1099511627776) (hF : Fits l) (hn : ks.length ≤ l.length) (hl : l.length ≤ 2147483648)
    (hw : (szT (objT ks (l.drop (l.length - ks.length)))).within = true) :
    Calls Tryz.prog 41 #[.pointer (some ⟨b, 0, none⟩), StpV 6 false 0 ⟨#[]⟩ 0 keys] w (DoPost F T b sv (l.take (l.length - ks.length) ++ [objT ks (l.drop (l.length - ks.length))]) w) := by
  obtain ⟨ka, kc, rfl, _⟩ := hK.cell
  have hmf : ∀ (fn : Fn) (first cap : Array Value) (w : World), (Instr.makeFunc fn first cap).run Tryz.prog w = .ok (.func fn first cap) w := fun _ _ _ _ => rfl
  have hkl : (strs ks).length = ks.length := by simp [strs]
  rw [hkl] at hK ⊢
  have hu : usedB 6 false 0 ⟨#[]⟩ 0 ks.length = true := by unfold usedB; simp
  have HMk := Lib.hid hM
  have HU := Lib.hid hu
  have HK := Lib.hid hK
  have HG := Lib.hid hG
  have HR := Lib.hid hr
  have HS := Lib.hid hs
  have HND := Lib.hid hnd
  have HF := Lib.hid hF
  have HW := Lib.hid hw
  have HS0 := Lib.hid ((Blk.new w [.int .i64 6, .bool false, .int .u64 0, .string ⟨#[]⟩, .int .i64 0, .slice ka ks.length kc] 48).alloc (.cells #[.nilIface] 29))
  have HE0 := Lib.hid (Blk.new1 w (.cells [.int .i64 6, .bool false, .int .u64 0, .string ⟨#[]⟩, .int .i64 0, .slice ka ks.length kc].toArray 48) [.nilIface] 29)
  have hb := hM.blk.lt
  clear hM hu hK hG hr hs hnd hF hw hkl
  go_enter_defers Tryz.func41, Tryz.ntmps41
  unfold StpV
  go_wp2_with (first
    | (go_at_call 71; refine (node_used 6 false 0 ⟨#[]⟩ 0 ka ks.length kc _).mono ?_; rintro e w1 ⟨rfl, hg1⟩; rw [HU.out]; have HS1 := Lib.hid (HS0.out.kept hg1 (by simp)); have HE1 := Lib.hid (HE0.out.kept hg1 (by simp)); obtain ⟨s1a, s1b, s10, s11, s12, s13, s14, s15⟩ := Blk.cells6 HS1.out; obtain ⟨e1a, e1b, e10⟩ := Blk.cells1 HE1.out; have HG1 := Lib.hid hg1; clear hg1)
    | (go_at_call 70; refine (node_refuse_ok _ _).mono ?_; rintro e w3 ⟨rfl, rfl⟩)
    | (go_at_call 79; go_loud (have G2 := (((Chg.refl w []).alloc (.cells [.int .i64 6, .bool false, .int .u64 0, .string ⟨#[]⟩, .int .i64 0, .slice ka ks.length kc].toArray 48)).alloc (.cells #[.nilIface] 29)).trans HG1.out; refine (node_object_ok F T b sv l vs _ (HMk.out.kept G2) G _ ks (HK.out.kept (G2.keepsF HG.out (by simp)) (fun _ h => h)) (fun k hk => Nat.lt_of_lt_of_le (HG.out k hk) G2.size) HR.out HS.out hk HND.out hby HF.out hn hl HW.out).mono ?_; rintro e w4 ⟨rfl, F', hF1, hF2, hP⟩; have HF1 := Lib.hid hF1; have HF2 := Lib.hid hF2; have HP := Lib.hid hP; clear hF1 hF2 hP G2; have HE4 := Lib.hid (HE1.out.kept HP.out.chg (HMk.out.newNotIn (w.heap.size + 1) (by omega))); obtain ⟨e4a, e4b, e40⟩ := Blk.cells1 HE4.out)))
  refine leaves_cons (f := 69) (args := #[.pointer (some ⟨w.heap.size + 1, 0, none⟩)]) (by simp) (by simp [go_sem]) ?_
  refine (catch_idle ⟨w.heap.size + 1, 0, none⟩ _).mono ?_
  rintro e u' w'' ⟨rfl, rfl, rfl⟩
  have e50 : (w4.setCell ⟨w.heap.size + 1, 0, none⟩ .nilIface).cell? ⟨w.heap.size + 1, 0, none⟩ = some .nilIface := (HE4.out.set 0 _).cell 0
  simp [Leaves, settle, results, Tryz.results41, go_sem, e50]
  have hz1 := HG1.out.size
  simp at hz1
  refine DoPost.done ((((Chg.refl w []).alloc _).alloc _).trans HG1.out) HP.out HF1.out (fun k hk hlt => HF2.out k hk (by omega)) hb (fun g hg => HMk.out.lst.lt hg) _ (by omega) e1a (fun hf => ?_) _
  have := HF2.out _ hf e1a
  have := HMk.out.lt _ this
  omega
end Go.Proofs.YtfdhgakalojahaaGreatDoor

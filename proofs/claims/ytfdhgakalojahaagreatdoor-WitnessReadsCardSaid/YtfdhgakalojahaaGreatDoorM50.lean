/- PROVED HERE: for every list of steps affidavitlaw30.WitnessReads returns true, and its argument reads behind the call as it read before: the row and its tied card, Rows.WitnessReadsCardSaid. CONDITIONS: the variables sha.first and sha.constants hold at the call what the row lists (tied by the card to the text of the program); no other. -/
import Derived.Lib.LaidTab
import Derived.Stop.LaidErr
import Derived.Test.YtfdhgakalojahaaGreatDoorCards
import Derived.Test.YtfdhgakalojahaaGreatDoorTie
import Derived.Test.YtfdhgakalojahaaGreatDoorM48
import Derived.Test.YtfdhgakalojahaaGreatDoorM49
set_option linter.unusedSimpArgs false
set_option linter.unusedVariables false
set_option linter.unnecessarySimpa false
set_option linter.unusedSectionVars false
namespace Go.Proofs.YtfdhgakalojahaaGreatDoor
open Go Go.RowKit Go.ChangeShapes Go.WideShapes Go.ChangeAt

def ZF : List Int := FL.map fun (x : Nat) => (x : Int)
def ZK : List Int := KL.map fun (x : Nat) => (x : Int)

/-- the listed variables' names -/
def nameF : String := Rows.witnessReadsRow.named.getD 0 ""
def nameK : String := Rows.witnessReadsRow.named.getD 1 ""

theorem laid_both : Rows.witnessReadsRow.laid = [(nameF, Lib.tabData .u32 ZF), (nameK, Lib.tabData .u32 ZK)] := by kernel_rfl

theorem own_none : ownKnob Tryz.prog.godebug = none := by kernel_rfl
theorem g_first : Tryz.prog.globalNamed nameF = some 1 := by kernel_rfl
theorem g_constants : Tryz.prog.globalNamed nameK = some 2 := by kernel_rfl
theorem g_first_type : (Tryz.prog.globals[1]?).map (·.type) = some 213 := by kernel_rfl
theorem g_constants_type : (Tryz.prog.globals[2]?).map (·.type) = some 238 := by kernel_rfl
theorem cells_u32 : Tryz.prog.cellsOf 164 = 1 := by kernel_rfl
theorem cells_8u : Tryz.prog.cellsOf 213 = 8 := by kernel_rfl
theorem cells_64u : Tryz.prog.cellsOf 238 = 64 := by kernel_rfl

theorem map_getD_int (L : List Nat) (j : Nat) (h : j < L.length) : (L.map fun (x : Nat) => (x : Int)).getD j 0 = ((L.getD j 0 : Nat) : Int) := by
  rw [List.getD_eq_getElem?_getD, List.getD_eq_getElem?_getD, List.getElem?_map, List.getElem?_eq_getElem h]; rfl

theorem FL_length : FL.length = 8 := by kernel_rfl
theorem KL_length : KL.length = 64 := by kernel_rfl

/-- what the row's list gives -/
theorem laid_of {W : World} (h : laidMetH Tryz.prog Rows.witnessReadsRow.laid W) : Laid W := by
  have h1 : laidMet Tryz.prog [(nameF, Lib.tabData .u32 ZF), (nameK, Lib.tabData .u32 ZK)] W := by
    rw [laid_both] at h; exact h
  have t1 := Lib.tabIs_of_head g_first g_first_type Tryz.underlying213 Tryz.underlying164 cells_u32 cells_8u h1
  have t2 := Lib.tabIs_of_head g_constants g_constants_type Tryz.underlying238 Tryz.underlying164 cells_u32 cells_64u (laidMet.tail h1)
  refine ⟨fun j hj => ?_, fun j hj => ?_⟩
  · rw [t2.cell g_constants j (by unfold ZK; rw [List.length_map, KL_length]; exact hj), rootV_K j hj]
    unfold ZK
    rw [map_getD_int _ _ (by rw [KL_length]; exact hj)]
  · rw [t1.cell g_first j (by unfold ZF; rw [List.length_map, FL_length]; exact hj), rootV_F j hj]
    unfold ZF
    rw [map_getD_int _ _ (by rw [FL_length]; exact hj)]

theorem Chg.keptBut {w w' : World} (h : Chg w w' []) (may : MemPlace → Prop) : w.keptBut w' may := by
  refine ⟨h.os, h.output, fun i hi => ?_⟩
  rw [h.block i hi (by simp)]
  exact (World.keptBut_refl w may).2.2 i hi

theorem post_of_kept {H : Type} {enc : TypeId × Value → H} {P : Program} {f : Func} {s : ChangeSpec} {apart fresh handsOn again : Bool} {W W' : World} {args : Array Value} {v : Value} {ds gs : List (DataW H)} {before pa pv : List MemPlace}
    (hW : DataW.Whole enc P f.params.toList s.vars apart W args.toList ds gs before)
    (hres : ∀ (b : Nat) (sp : Nat → Bool) (hd : Bool), DataW.TrodAll enc P W' b sp hd f.resultTypes.toList (v.resultList f.resultTypes.size) (s.fn H (ds ++ gs)).results [])
    (hargs : ∀ sp : Nat → Bool, (∀ p ∈ before, sp p.block = true) → DataW.TrodAll enc P W' 0 sp true f.params.toList args.toList (s.fn H (ds ++ gs)).args pa)
    (hvars : ∀ sp : Nat → Bool, (∀ p ∈ before, sp p.block = true) → DataW.TrodVars enc P W' sp s.vars (s.fn H (ds ++ gs)).vars pv)
    (hps : before = pa ++ pv) (hk : W.keptBut W' (· ∈ before)) (hfz : ∀ b off, b < W.heap.size → W'.frozen? ⟨b, off, none⟩ = W.frozen? ⟨b, off, none⟩)
    (hok : ∀ (j : Nat) (t : TypeId) (r : Value), f.resultTypes[j]? = some t → (v.resultList f.resultTypes.size)[j]? = some r → Value.okWide P W' .any 0 t r) :
    s.post enc P f apart fresh handsOn again W args v W' := by
  have hlt : ∀ p ∈ before, p.block < W.heap.size := fun p hp => hW.lt p hp
  have hold : ∀ p ∈ before, (fun b => decide (b < W.heap.size)) p.block = true := fun p hp => by simpa using hW.lt p hp
  refine ⟨ds, gs, before, [], pa, pv, hW, hres _ _ _, hargs _ hold, hvars _ hold, World.keptBut_mono (fun p hp => ⟨hp, ?_⟩) hk, fun _ => ?_⟩
  · rw [hps, List.mem_append] at hp
    exact Or.inr hp
  · obtain ⟨_, _, _, _, _, hz, hn⟩ := hW
    refine ⟨hok, _, _, ([] ++ pa) ++ pv, ⟨[] ++ pa, pv, trodAll_append (hargs _ (fun _ _ => rfl)) (hres _ _ _), hvars _ (fun _ _ => rfl), rfl, ?_, ?_⟩, ?_⟩
    · intro b off hp
      have hm : MemPlace.cell b off ∈ before := by rw [hps]; simpa using hp
      rw [hfz b off (hlt _ hm)]
      exact hz b off hm
    · intro ha
      have := hn ha
      rw [hps] at this
      simpa using this
    · intro p hp _
      rw [hps]
      simpa using hp

theorem laid_out : laidOutB Tryz.prog = true := by kernel_rfl

theorem Chg.sameAt {w w' : World} (h : Chg w w' []) {p : MemPlace} (hp : p.block < w.heap.size) : w.sameAt w' p := by
  cases p with
  | cell b off => exact h.cell (p := ⟨b, off, Option.none⟩) hp (by simp)
  | map b => exact h.block b hp (by simp)

set_option maxRecDepth 100000 in
theorem reads_contract (H : Type) (enc : TypeId × Value → H) (W : World) (base : Nat) (args : Array Value) (ds gs : List (DataW H)) (before : List MemPlace)
    (hval : ∀ (j : Nat) t v, Tryz.f4.params[j]? = some t → args[j]? = some v → Value.okWide Tryz.prog W .any base t v)
    (hW : DataW.Whole enc Tryz.prog Tryz.f4.params.toList Rows.witnessReadsSpec.vars false W args.toList ds gs before)
    (hsz : (DataW.weightsEach Tryz.prog (Tryz.f4.params.toList ++ (OpenSpec.ofChange Rows.witnessReadsSpec).bare.plain.varTypes Tryz.prog) (ds ++ gs)).all (· ≤ reachBytes) = true) (hL : laidMetH Tryz.prog Rows.witnessReadsRow.laid W) :
    Calls Tryz.prog 4 args W fun e W' => ∃ v, e = .returned v ∧ Rows.witnessReadsSpec.post enc Tryz.prog Tryz.f4 false true false false W args v W' := by
  have hW' := hW
  obtain ⟨p, q, hA0, hV, rfl, hfz, hnd⟩ := hW
  have hA : DataW.TrodAll enc Tryz.prog W 0 (fun _ => true) true Tryz.f4.params.toList args.toList ds p := hA0
  rw [Tryz.params4] at hA hval hsz
  obtain ⟨v0, vs0, d0, ds0, p0, q0, hargs, rfl, rfl, h0, r0⟩ := trodAll_cons hA
  obtain ⟨rfl, rfl, rfl⟩ := trodAll_nil r0
  obtain rfl : args = #[v0] := by cases args; simp_all
  obtain ⟨rfl, rfl⟩ := trodVars_none hV
  clear hA0 hA hV
  obtain ⟨a0, n0, c0, rfl⟩ := okWide_slice Tryz.underlying44 (hval 0 44 v0 rfl rfl)
  have hT := h0
  obtain ⟨fuel, h0⟩ := h0
  have hlt : Light d0 44 := fun n hn => by
    have := List.all_eq_true.1 hsz n (DataW.weights_mem_each (j := 0) rfl rfl n hn)
    simp only [decide_eq_true_eq] at this
    exact Nat.le_trans this (by decide)
  obtain ⟨a, c, l, xs, hcl, hR, hS, hw, hlen⟩ := open_steps h0 hlt
  have hcl' : [Value.slice a0 n0 c0] = [Value.slice a l.length c] := hcl
  rw [List.cons.injEq] at hcl'
  rw [hcl'.1]
  refine (law_reads reads_both l (.slice a l.length c) xs W (laid_of hL) hR hS hw hlen).mono fun e W' ⟨he, hg⟩ => ?_
  subst he
  rw [← hcl'.1]
  refine ⟨_, rfl, post_of_kept (pa := p0 ++ []) (pv := []) hW' (fun _ _ _ => trodAll_cons_mk (shut_bool Tryz.underlying4 _) trodAll_mk0) (fun sp hsp => ?_) (fun _ _ => rfl) rfl
    (hg.keptBut _) (fun b off hb => hg.frozen hb (by simp)) (ok_one (by kernel_rfl) rfl (okWide_bool_mk Tryz.underlying4 _))⟩
  exact trodAll_cons_mk (WideElems.Trod_stays laid_out (by kernel_rfl) (of_decide_eq_true (by kernel_rfl)) hT (fun x hx => hg.sameAt (hW'.lt x (by simpa using hx))) (fun x hx => hsp x (by simpa using hx))) trodAll_mk0

def layTab (zs : List Int) : Obj → Obj
  | .cells _ t frozen => .cells (zs.map fun z => Value.int .u32 z).toArray t frozen
  | o => o
/-- a world for the witness: the two tables laid -/
noncomputable def laidWorld (os : Os) : World :=
  { World.holding Tryz.prog os ⟨#[], #[], []⟩ with heap := (((World.holding Tryz.prog os ⟨#[], #[], []⟩).heap.modify 1 (layTab ZF)).modify 2 (layTab ZK)) }
def arg0 : Value := .slice none 0 0
theorem laid_met (os : Os) : laidMet Tryz.prog Rows.witnessReadsRow.laid ((laidWorld os).forCall (fun _ _ => 0) ⟨#[], #[arg0], []⟩).memory :=
  laidMet_of_run' 8 (by kernel_rfl) (by kernel_rfl)
theorem reads0 (os : Os) {H : Type} (enc : TypeId × Value → H) : ∃ ds places, DataW.whole enc Tryz.prog ((laidWorld os).forCall (fun _ _ => 0) ⟨#[], #[arg0], []⟩).memory Tryz.f4.params.toList Rows.witnessReadsSpec.vars false #[arg0].toList 8 = some (ds, [], places) ∧ ds = [.nil] :=
  ⟨[.nil], [], by kernel_rfl, rfl⟩

set_option maxRecDepth 100000 in
theorem lifted (os : Os) (started : os.Started) (H : Type) (enc : TypeId × Value → H) (F : Stop.Interp) :
    ReturnsInHanded {} Tryz.checked os 4 .any ((OpenSpec.ofChange Rows.witnessReadsSpec).preRow enc Tryz.prog Tryz.f4 Rows.witnessReadsRow.domain false Rows.witnessReadsRow.laid) (((OpenSpec.ofChange Rows.witnessReadsSpec).at F).post enc Tryz.prog Tryz.f4 false true false false) := by
  obtain ⟨ds, places, hx, rfl⟩ := reads0 os enc
  refine returnsInHanded_of_row (C := Tryz.checked) (s := OpenSpec.ofChange Rows.witnessReadsSpec) own_none started (by kernel_rfl) Tryz.func4
    (witness_row_at (enc := enc) (C := Tryz.checked) false (laidWorld os) #[arg0] rfl (by kernel_rfl) (by kernel_rfl) (by kernel_rfl)
      (OpenSpec.preRow_of_cond 8 hx (by kernel_rfl) (fun k hk => by cases hk) (by kernel_rfl) (laid_met os))) ?_
  intro W base args ds gs before hval hW _ _ hsz hL _ _
  exact reads_contract H enc W base args ds gs before hval hW hsz hL

theorem reads_said : Rows.WitnessReadsSaid :=
  OpenClaim.holds_of_cond 4 Tryz.f4 rfl rfl rfl rfl rfl rfl rfl ⟨rfl, rfl, rfl, rfl, rfl⟩ rfl rfl rfl rfl rfl (by kernel_rfl) Tryz.func4 (by kernel_rfl)
    (of_decide_eq_true (by kernel_rfl)) (by unfold Func.isWrapper; first | (rw [if_pos (by decide +kernel)]; kernel_rfl) | (rw [if_neg (by decide +kernel)]; exact ⟨rfl, rfl⟩))
    (fun os started H enc _ F => by rw [OpenClaim.pre_eq_preRow]; exact lifted os started H enc F)

theorem reads_plain (f : FuncId) (fn : Func) (hf : Tryz.pinned.checked.prog.funcNamed Rows.witnessReadsRow.func = some f) (hfn : Tryz.pinned.checked.prog.funcs[f]? = some fn) :
    true = Tryz.pinned.checked.prog.looks [] ∧ ∀ (j : Nat) t, fn.params[j]? = some t → Tryz.pinned.checked.prog.wantsStandIn t = false := by
  obtain rfl : f = 4 := Option.some.inj ((show Tryz.prog.funcNamed Rows.witnessReadsRow.func = some 4 by kernel_rfl).symm.trans hf) |>.symm
  obtain rfl : fn = Tryz.f4 := (Option.some.inj (Tryz.func4.symm.trans hfn)).symm
  refine ⟨by kernel_rfl, fun j t ht => ?_⟩
  rw [Tryz.params4] at ht
  obtain rfl : t = 44 := by simpa using Array.mem_of_getElem? ht
  exact (show Tryz.prog.wantsStandIn 44 = false by kernel_rfl)

/-- THE CARD -/
theorem witnessReads_card : Rows.WitnessReadsCardSaid :=
  Claim7.holds_tied_plain_at .later [] _ _ _ _ reads_said (fun _ h => by cases h) (by kernel_rfl) (fun _ h => by cases h) witnessReads_row_tie rfl ⟨rfl, rfl⟩ (by kernel_rfl) rfl reads_plain (by kernel_rfl)
end Go.Proofs.YtfdhgakalojahaaGreatDoor

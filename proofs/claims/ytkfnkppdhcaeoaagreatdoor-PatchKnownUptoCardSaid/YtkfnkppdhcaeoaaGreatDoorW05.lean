/- PROVED HERE: the card of PatchKnown: affidavitlaw17.PatchKnown, which takes no argument, returns true. Condition: the bound of the form Upto alone (nothing is read but the package variables). -/
import Derived.Test.YtkfnkppdhcaeoaaGreatDoorM28
import Derived.Test.YtkfnkppdhcaeoaaGreatDoorW04
set_option maxRecDepth 100000
set_option maxHeartbeats 32000000
set_option linter.all false
namespace Go.Proofs.YtkfnkppdhcaeoaaGreatDoor
open Go renaming Calls->Cl,TypeId->Ti,Value->Vl,World->Wl
open Go.Ending renaming returned->nR
open Option renaming some->nM
section
open _root_.Go.Proofs.Tryz
open Go Go.RowKit Go.ChangeShapes Go.WideShapes Go.ChangeAt
theorem mZ(H:Type)(enc:Ti×Vl->H)(W:Wl)(base:Nat)(args:Array Vl)(a f:List (DataW H))(m:List MemPlace)(l:∀(j:Nat) t v,f8.params[j]? =nM t->args[j]? =nM v->Vl.okWide prog W .any base t v)(i:DataW.Whole enc prog f8.params.toList Rows.patchKnownSpec.vars false W args.toList a f m)(y:Rows.uptoSmall H (a++f)=true)(o:laidMetH prog iQ W)(s:W.ShapedOpen prog):
  Cl prog 8 args W fun e d=>∃v,e= nR v/\Rows.patchKnownSpec.post enc prog f8 false true false false W args v d:=by
 have u:=i;obtain⟨p,q,g,h,rfl,B,C⟩:=i;have c:DataW.TrodAll enc prog W 0 (fun _=>true) true f8.params.toList args.toList a p:=g;rw[params8]at c l;obtain⟨A,rfl,rfl⟩:=trodAll_nil c;obtain rfl:args=#[]:=by cases args;simp_all
 obtain⟨rfl,rfl⟩:=trodVars_none h;clear g c h y l;obtain⟨r,z,n⟩:=jv o s;refine(nL W r n).mono fun e d ⟨x,k⟩=> ?_
 subst x
 exact⟨_,rfl,Pq (pa:=[]) (pv:=[]) u (fun _ _ _=>trodAll_cons_mk (shut_bool underlying4 _) trodAll_mk0) (fun F D=>trodAll_mk0) (fun _ _=>rfl) rfl
  (k.keptBut _) (fun b E w=>k.frozen w Zh) (ok_one Yb rfl (okWide_bool_mk underlying4 _))⟩
def oz:Array Vl:=#[]
theorem ny(os:Os){H:Type}(enc:Ti×Vl->H):∃a,DataW.whole enc prog ((ie os).forCall (fun _ _=>0) ⟨#[],oz,[]⟩).memory f8.params.toList Rows.patchKnownSpec.vars false oz.toList 8=nM ([],[],a):=
 ⟨[],Yb⟩
theorem nq(os:Os)(l:os.Started)(H:Type)(enc:Ti×Vl->H)(F:Stop.Interp):
  ReturnsInHanded {} checked os 8 .any ((Rows.OpenSpec.upto Rows.patchKnownSpec).preRow enc prog f8 Rows.patchKnownUptoRow.domain false Rows.patchKnownUptoRow.laid) (((Rows.OpenSpec.upto Rows.patchKnownSpec).at F).post enc prog f8 false true false false):=by
 obtain⟨m,j⟩:=ny os enc
 refine returnsInHanded_of_row (C:=checked) (s:=Rows.OpenSpec.upto Rows.patchKnownSpec) Xm l Yb func8
  (witness_row_atRef (enc:=enc) (C:=checked) false (ie os) oz rfl Yb Yb Yb
   (OpenSpec.preRow_of_cond 8 j Yb (fun k h=>by cases h;kernel_rfl) Yb (jj os _))) ?_
 intro W base args b c a i f _ g _ d e _;exact mZ H enc W base args b c a i f (g _ rfl) d e
theorem nY{a b:Bool}(h:a=true)(k:b=true):(a&&b)=true:=by rw[h,k];rfl
theorem mU:prog.funcNamed Rows.patchKnownUptoRow.func=nM 8:=Yb
theorem nw:joinedFacts prog 8 f8 (Rows.OpenSpec.upto Rows.patchKnownSpec).bare Rows.patchKnownUptoRow=true:=by
 unfold joinedFacts
 iterate 31 refine nY ?_ ?_
 all_goals as_aux_lemma=>kernel_rfl
theorem nD:f8.isInstance prog Rows.patchKnownUptoRow.origin Rows.patchKnownUptoRow.targs:=of_decide_eq_true Yb
theorem qzi:f8.isWrapper prog Rows.patchKnownUptoRow.wrapper Rows.patchKnownUptoRow.mainSum:=by
 unfold Func.isWrapper;first|(rw[Qr (by decide+kernel)];kernel_rfl)|(rw[Qs (by decide+kernel)];exact⟨rfl,rfl⟩)
theorem nE:Rows.PatchKnownUptoSaid:=
 OpenClaim.holds_of_cond 8 f8 rfl rfl rfl rfl rfl rfl rfl ⟨rfl,rfl,rfl,rfl,rfl⟩ rfl rfl rfl rfl rfl mU func8 nw nD qzi
  (fun os a H enc _ F=>by rw[OpenClaim.pre_eq_preRow];exact nq os a H enc F)
theorem nx(f:FuncId)(a:Func)(c:Tryz.pinned.checked.prog.funcNamed Rows.patchKnownUptoRow.func=nM f)(d:Tryz.pinned.checked.prog.funcs[f]? =nM a):
  true=Tryz.pinned.checked.prog.looks []/\∀(j:Nat) t,a.params[j]? =nM t->Tryz.pinned.checked.prog.wantsStandIn t=false:=by
 obtain rfl:f=8:=Q5 (mU.symm.trans c)|>.symm
 obtain rfl:a=f8:=(Q5 (func8.symm.trans d)).symm;refine⟨Yb,fun j t b=> ?_⟩;rw[params8]at b;simp at b
theorem patchKnown_card:Rows.PatchKnownUptoCardSaid:=
 Claim7.holds_tied_plain_at .later [] _ _ _ _ nE (fun _ h=>by cases h) Yb (fun _ h=>by cases h) patchKnownUpto_row_tie rfl ⟨rfl,rfl⟩ Yb rfl nx Yb
end
#print axioms patchKnown_card
end Go.Proofs.YtkfnkppdhcaeoaaGreatDoor

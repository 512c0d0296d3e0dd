/- PROVED HERE: the law PatchWhole answers true for every row of steps and every row of operations, up to the size that the statement names: where operations are refused nothing has changed, else what was added or put last stands there. Conditions: those of Rows.PatchWholeUptoCardSaid and no others. -/
import Derived.Test.YtkfnkppdhcaeoaaGreatDoorM40
import Derived.Test.YtkfnkppdhcaeoaaGreatDoorW02
set_option maxRecDepth 100000
set_option maxHeartbeats 32000000
set_option linter.unusedSimpArgs false
set_option linter.unusedVariables false
set_option linter.unnecessarySimpa false
namespace Go.Proofs.YtkfnkppdhcaeoaaGreatDoor
section
open Go Go.RowKit Go.ChangeShapes Go.WideShapes Go.ChangeAt
theorem dw(H:Type)(enc:TypeId×Value->H)(W:World)(base:Nat)(args:Array Value)(ds gs:List (DataW H))(before:List MemPlace)(hval:∀(j:Nat) t v,Tryz.f7.params[j]? =some t->args[j]? =some v->Value.okWide Tryz.prog W .any base t v)(hW:DataW.Whole enc Tryz.prog Tryz.f7.params.toList Rows.patchWholeSpec.vars false W args.toList ds gs before)(hsm:Rows.uptoSmall H (ds++gs)=true)(hL:laidMetH Tryz.prog Ul W)(hSh:W.ShapedOpen Tryz.prog):
  Calls Tryz.prog 7 args W fun e W'=>∃v,e= .returned v/\Rows.patchWholeSpec.post enc Tryz.prog Tryz.f7 false true false false W args v W':=by
 have hW':=hW;obtain⟨p,q,hA0,hV,rfl,hfz,hnd⟩:=hW;have hA:DataW.TrodAll enc Tryz.prog W 0 (fun _=>true) true Tryz.f7.params.toList args.toList ds p:=hA0;rw[Tryz.params7]at hA hval;obtain⟨v0,vs0,d0,ds0,p0,q0,hargs,rfl,rfl,h0,r0⟩:=trodAll_cons hA;obtain⟨v1,vs1,d1,ds1,p1,q1,rfl,rfl,rfl,h1,r1⟩:=trodAll_cons r0;obtain⟨rfl,rfl,rfl⟩:=trodAll_nil r1;obtain rfl:args=#[v0,v1]:=by cases args;simp_all
 obtain⟨rfl,rfl⟩:=trodVars_none hV;clear hA0 hA hV r0 r1;obtain⟨a0,n0,c0,rfl⟩:=okWide_slice Tryz.underlying22 (hval 0 22 v0 rfl rfl);obtain⟨a1,n1,c1,rfl⟩:=okWide_slice Tryz.underlying23 (hval 1 23 v1 rfl rfl);have hT0:=h0;have hT1:=h1;obtain⟨u0,h0⟩:=h0;obtain⟨u1,h1⟩:=h1
 have hbk:Rows.uptoBulk d0+(Rows.uptoBulk d1+0)<=1048576:=by
  have:=of_decide_eq_true hsm;simpa only[Qo,List.nil_append,Rows.uptoBulkAll]using this
 obtain⟨b0,e0,l,xs,hcl,hR,hS,hw,hlen⟩:=MA h0 (show Rows.uptoBulk d0<=1048576 by omega);obtain⟨b1,e1,pa,ys,hcl1,hO1⟩:=Rt h1 (show Rows.uptoBulk d1<=1048576 by omega);have g0:[Value.slice a0 n0 c0]=[Value.slice b0 l.length e0]:=hcl;have g1:[Value.slice a1 n1 c1]=[Value.slice b1 pa.length e1]:=hcl1;rw[List.cons.injEq]at g0 g1;rw[g0.1,g1.1];obtain⟨hLW,h10⟩:=Yv hL hSh;refine(dE l pa (.slice b0 l.length e0) (.slice b1 pa.length e1) xs ys W hLW h10 ⟨hR,hS,hw,by omega⟩ hO1).mono fun e W' ⟨he,hg⟩=> ?_
 subst he;rw[<-g0.1,<-g1.1]
 refine⟨_,rfl,Pq (pa:=p0++(p1++[])) (pv:=[]) hW' (fun _ _ _=>trodAll_cons_mk (shut_bool Tryz.underlying4 _) trodAll_mk0) (fun sp hsp=> ?_) (fun _ _=>rfl) rfl
  (hg.keptBut _) (fun b off hb=>hg.frozen hb (by simp)) (ok_one (by kernel_rfl) rfl (okWide_bool_mk Tryz.underlying4 _))⟩
 have hlt:∀x,x∈p0\/x∈p1->x.block<W.heap.size:=fun x hx=>hW'.lt x (by rcases hx with h|h<;>simp[h])
 have hss:∀x,x∈p0\/x∈p1->sp x.block=true:=fun x hx=>hsp x (by rcases hx with h|h<;>simp[h])
 exact trodAll_cons_mk (WideElems.Trod_stays Me (by kernel_rfl) (of_decide_eq_true (by kernel_rfl)) hT0 (fun x hx=>hg.sameAt (hlt x (.inl hx))) (fun x hx=>hss x (.inl hx)))
  (trodAll_cons_mk (WideElems.Trod_stays Me (by kernel_rfl) (of_decide_eq_true (by kernel_rfl)) hT1 (fun x hx=>hg.sameAt (hlt x (.inr hx))) (fun x hx=>hss x (.inr hx))) trodAll_mk0)
def dG:Array Value:=#[.slice none 0 0,.slice none 0 0]
theorem dA(os:Os){H:Type}(enc:TypeId×Value->H):∃places,DataW.whole enc Tryz.prog ((Kn os).forCall (fun _ _=>0) ⟨#[],dG,[]⟩).memory Tryz.f7.params.toList Rows.patchWholeSpec.vars false dG.toList 8=some ([.nil,.nil],[],places):=
 ⟨[],by kernel_rfl⟩
theorem dx(os:Os)(started:os.Started)(H:Type)(enc:TypeId×Value->H)(F:Stop.Interp):
  ReturnsInHanded {} Tryz.checked os 7 .any ((Rows.OpenSpec.upto Rows.patchWholeSpec).preRow enc Tryz.prog Tryz.f7 Rows.patchWholeUptoRow.domain false Rows.patchWholeUptoRow.laid) (((Rows.OpenSpec.upto Rows.patchWholeSpec).at F).post enc Tryz.prog Tryz.f7 false true false false):=by
 obtain⟨places,hx⟩:=dA os enc
 refine returnsInHanded_of_row (C:=Tryz.checked) (s:=Rows.OpenSpec.upto Rows.patchWholeSpec) Xm started (by kernel_rfl) Tryz.func7
  (witness_row_atRef (enc:=enc) (C:=Tryz.checked) false (Kn os) dG rfl (by kernel_rfl) (by kernel_rfl) (by kernel_rfl)
   (OpenSpec.preRow_of_cond 8 hx (by kernel_rfl) (fun k hk=>by cases hk;kernel_rfl) (by kernel_rfl) (WK os _))) ?_
 intro W base args ds gs before hval hW _ hcond _ hL hSh _;exact dw H enc W base args ds gs before hval hW (hcond _ rfl) hL hSh
theorem dF{a b:Bool}(h:a=true)(k:b=true):(a&&b)=true:=by rw[h,k];rfl
theorem dv:Tryz.prog.funcNamed Rows.patchWholeUptoRow.func=some 7:=by kernel_rfl
theorem dy:joinedFacts Tryz.prog 7 Tryz.f7 (Rows.OpenSpec.upto Rows.patchWholeSpec).bare Rows.patchWholeUptoRow=true:=by
 unfold joinedFacts
 iterate 31 refine dF ?_ ?_
 all_goals as_aux_lemma=>kernel_rfl
theorem dB:Tryz.f7.isInstance Tryz.prog Rows.patchWholeUptoRow.origin Rows.patchWholeUptoRow.targs:=of_decide_eq_true (by kernel_rfl)
theorem dD:Tryz.f7.isWrapper Tryz.prog Rows.patchWholeUptoRow.wrapper Rows.patchWholeUptoRow.mainSum:=by
 unfold Func.isWrapper;first|(rw[Qr (by decide+kernel)];kernel_rfl)|(rw[Qs (by decide+kernel)];exact⟨rfl,rfl⟩)
theorem dC:Rows.PatchWholeUptoSaid:=
 OpenClaim.holds_of_cond 7 Tryz.f7 rfl rfl rfl rfl rfl rfl rfl ⟨rfl,rfl,rfl,rfl,rfl⟩ rfl rfl rfl rfl rfl dv Tryz.func7 dy dB dD
  (fun os started H enc _ F=>by rw[OpenClaim.pre_eq_preRow];exact dx os started H enc F)
theorem dz(f:FuncId)(fn:Func)(hf:Tryz.pinned.checked.prog.funcNamed Rows.patchWholeUptoRow.func=some f)(hfn:Tryz.pinned.checked.prog.funcs[f]? =some fn):
  true=Tryz.pinned.checked.prog.looks []/\∀(j:Nat) t,fn.params[j]? =some t->Tryz.pinned.checked.prog.wantsStandIn t=false:=by
 obtain rfl:f=7:=Q5 (dv.symm.trans hf)|>.symm
 obtain rfl:fn=Tryz.f7:=(Q5 (Tryz.func7.symm.trans hfn)).symm;refine⟨by kernel_rfl,fun j t ht=> ?_⟩;rw[Tryz.params7]at ht
 have hm:t=22\/t=23:=by
  have:=Array.mem_of_getElem? ht;simp at this
  rcases this with h|h<;>simp[h]
 rcases hm with rfl|rfl
 .exact(show Tryz.prog.wantsStandIn 22=false by kernel_rfl)
 .exact(show Tryz.prog.wantsStandIn 23=false by kernel_rfl)
theorem patchWhole_card:Rows.PatchWholeUptoCardSaid:=
 Claim7.holds_tied_plain_at .later [] _ _ _ _ dC (fun _ h=>by cases h) (by kernel_rfl) (fun _ h=>by cases h) patchWholeUpto_row_tie rfl ⟨rfl,rfl⟩ (by kernel_rfl) rfl dz (by kernel_rfl)
end
#print axioms patchWhole_card
end Go.Proofs.YtkfnkppdhcaeoaaGreatDoor

/- PROVED HERE: the card of PatchReads: for every list of steps of bulk at most 1048576 (what is read of it), affidavitlaw17.PatchReads returns true, and its argument reads behind the call as it read before. Condition: the bound alone (the form Upto). -/
import Derived.Test.YtkfnkppdhcaeoaaGreatDoorM28
import Derived.Test.YtkfnkppdhcaeoaaGreatDoorW04
set_option maxRecDepth 100000
set_option maxHeartbeats 32000000
set_option linter.all false
namespace Go.Proofs.YtkfnkppdhcaeoaaGreatDoor
open Go renaming Calls->Cl,TypeId->Ti,Value->Vl,World->Wl
open Go.Value renaming slice->nS
open Go.Ending renaming returned->nR
open Option renaming none->nN,some->nM
section
open _root_.Go.Proofs.Tryz
open Go Go.RowKit Go.ChangeShapes Go.WideShapes Go.ChangeAt
theorem kV(H:Type)(enc:Ti×Vl->H)(W:Wl)(base:Nat)(args:Array Vl)(d o:List (DataW H))(C:List MemPlace)(y:∀(j:Nat) t v,Tryz.f9.params[j]? =nM t->args[j]? =nM v->Vl.okWide prog W .any base t v)(u:DataW.Whole enc prog Tryz.f9.params.toList Rows.patchReadsSpec.vars false W args.toList d o C)(R:Rows.uptoSmall H (d++o)=true)(F:laidMetH prog iQ W)(K:W.ShapedOpen prog):
  Cl prog 9 args W fun e k=>∃v,e= nR v/\Rows.patchReadsSpec.post enc prog Tryz.f9 false true false false W args v k:=by
 have w:=u;obtain⟨p,q,r,s,rfl,ab,ae⟩:=u;have g:DataW.TrodAll enc prog W 0 (fun _=>true) true Tryz.f9.params.toList args.toList d p:=r;rw[params9]at g y;obtain⟨A,ag,m,Y,i,q0,Z,rfl,rfl,c,z⟩:=trodAll_cons g;obtain⟨rfl,rfl,rfl⟩:=trodAll_nil z;obtain rfl:args=#[A]:=by cases args;simp_all
 obtain⟨rfl,rfl⟩:=trodVars_none s;clear r g s z;obtain⟨B,V,D,rfl⟩:=okWide_slice underlying22 (y 0 22 A rfl rfl);have L:=c;obtain⟨u0,c⟩:=c
 have aa:Rows.uptoBulk m+0<=1048576:=by
  have:=of_decide_eq_true R;simpa only[Qo,List.nil_append,Rows.uptoBulkAll]using this
 obtain⟨l,n,pa,ys,O,I,J,U,ad⟩:=MA c (show Rows.uptoBulk m<=1048576 by omega);have f:[Vl.slice B V D]=[Vl.slice l pa.length n]:=O;rw[List.cons.injEq]at f;rw[f.1];obtain⟨G,M,E⟩:=jv F K;refine(lT pa (nS l pa.length n) ys W G M E ⟨I,J,U,Zj⟩).mono fun e k ⟨P,h⟩=> ?_
 subst P;rw[<-f.1]
 refine⟨_,rfl,Pq (pa:=i++[]) (pv:=[]) w (fun _ _ _=>trodAll_cons_mk (shut_bool underlying4 _) trodAll_mk0) (fun X S=> ?_) (fun _ _=>rfl) rfl
  (h.keptBut _) (fun b af N=>h.frozen N Zh) (ok_one Yb rfl (okWide_bool_mk underlying4 _))⟩
 have Q:∀x,x∈i->x.block<W.heap.size:=fun x a=>w.lt x (by simp[a])
 have T:∀x,x∈i->X x.block=true:=fun x a=>S x (by simp[a])
 exact trodAll_cons_mk (WideElems.Trod_stays Me Yb (of_decide_eq_true Yb) L (fun x a=>h.sameAt (Q x a)) (fun x a=>T x a)) trodAll_mk0
def mC:Array Vl:=#[nS nN 0 0]
theorem lA(os:Os){H:Type}(enc:Ti×Vl->H):∃a,DataW.whole enc prog ((ie os).forCall (fun _ _=>0) ⟨#[],mC,[]⟩).memory Tryz.f9.params.toList Rows.patchReadsSpec.vars false mC.toList 8=nM ([.nil],[],a):=
 ⟨[],Yb⟩
theorem li(os:Os)(l:os.Started)(H:Type)(enc:Ti×Vl->H)(F:Stop.Interp):
  ReturnsInHanded {} checked os 9 .any ((Rows.OpenSpec.upto Rows.patchReadsSpec).preRow enc prog Tryz.f9 Rows.patchReadsUptoRow.domain false Rows.patchReadsUptoRow.laid) (((Rows.OpenSpec.upto Rows.patchReadsSpec).at F).post enc prog Tryz.f9 false true false false):=by
 obtain⟨m,j⟩:=lA os enc
 refine returnsInHanded_of_row (C:=checked) (s:=Rows.OpenSpec.upto Rows.patchReadsSpec) Xm l Yb func9
  (witness_row_atRef (enc:=enc) (C:=checked) false (ie os) mC rfl Yb Yb Yb
   (OpenSpec.preRow_of_cond 8 j Yb (fun k h=>by cases h;kernel_rfl) Yb (jj os _))) ?_
 intro W base args b c a i f _ g _ d e _;exact kV H enc W base args b c a i f (g _ rfl) d e
theorem mw{a b:Bool}(h:a=true)(k:b=true):(a&&b)=true:=by rw[h,k];rfl
theorem kT:prog.funcNamed Rows.patchReadsUptoRow.func=nM 9:=Yb
theorem lu:joinedFacts prog 9 Tryz.f9 (Rows.OpenSpec.upto Rows.patchReadsSpec).bare Rows.patchReadsUptoRow=true:=by
 unfold joinedFacts
 iterate 31 refine mw ?_ ?_
 all_goals as_aux_lemma=>kernel_rfl
theorem lK:Tryz.f9.isInstance prog Rows.patchReadsUptoRow.origin Rows.patchReadsUptoRow.targs:=of_decide_eq_true Yb
theorem lO:Tryz.f9.isWrapper prog Rows.patchReadsUptoRow.wrapper Rows.patchReadsUptoRow.mainSum:=by
 unfold Func.isWrapper;first|(rw[Qr (by decide+kernel)];kernel_rfl)|(rw[Qs (by decide+kernel)];exact⟨rfl,rfl⟩)
theorem lM:Rows.PatchReadsUptoSaid:=
 OpenClaim.holds_of_cond 9 Tryz.f9 rfl rfl rfl rfl rfl rfl rfl ⟨rfl,rfl,rfl,rfl,rfl⟩ rfl rfl rfl rfl rfl kT func9 lu lK lO
  (fun os a H enc _ F=>by rw[OpenClaim.pre_eq_preRow];exact li os a H enc F)
theorem lw(f:FuncId)(a:Func)(c:Tryz.pinned.checked.prog.funcNamed Rows.patchReadsUptoRow.func=nM f)(d:Tryz.pinned.checked.prog.funcs[f]? =nM a):
  true=Tryz.pinned.checked.prog.looks []/\∀(j:Nat) t,a.params[j]? =nM t->Tryz.pinned.checked.prog.wantsStandIn t=false:=by
 obtain rfl:f=9:=Q5 (kT.symm.trans c)|>.symm
 obtain rfl:a=Tryz.f9:=(Q5 (func9.symm.trans d)).symm;refine⟨Yb,fun j t b=> ?_⟩;rw[params9]at b
 have e:t=22:=by
  have:=Array.mem_of_getElem? b;simpa using this
 subst e;exact(show prog.wantsStandIn 22=false by kernel_rfl)
theorem patchReads_card:Rows.PatchReadsUptoCardSaid:=
 Claim7.holds_tied_plain_at .later [] _ _ _ _ lM (fun _ h=>by cases h) Yb (fun _ h=>by cases h) patchReadsUpto_row_tie rfl ⟨rfl,rfl⟩ Yb rfl lw Yb
end
#print axioms patchReads_card
end Go.Proofs.YtkfnkppdhcaeoaaGreatDoor

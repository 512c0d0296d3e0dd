/- PROVED HERE: for every list of operations of bulk at most 1048576, affidavitlaw17.PatchTells returns true, and its argument reads behind the call as it read before: the row and its tied card, Rows.PatchTellsUptoCardSaid. CONDITIONS: the package variables that the row lists hold at the call what it lists (tied by the card to the text of the program); no other. -/
import Derived.Test.YtkfnkppdhcaeoaaGreatDoorM28
import Derived.Test.YtkfnkppdhcaeoaaGreatDoorW03
set_option maxRecDepth 100000
set_option maxHeartbeats 32000000
set_option linter.all false
namespace Go.Proofs.YtkfnkppdhcaeoaaGreatDoor
open Go renaming Calls->Cl,TypeId->Ti,Value->Vl,World->Wl
section
open _root_.Go.Proofs.Tryz
open Go Go.RowKit Go.ChangeShapes Go.WideShapes Go.ChangeAt
theorem iw(H:Type)(enc:Ti×Vl->H)(W:Wl)(base:Nat)(args:Array Vl)(d o:List (DataW H))(C:List MemPlace)(y:∀(j:Nat) t v,f6.params[j]? =some t->args[j]? =some v->Vl.okWide prog W .any base t v)(u:DataW.Whole enc prog f6.params.toList Rows.patchTellsSpec.vars false W args.toList d o C)(R:Rows.uptoSmall H (d++o)=true)(F:laidMetH prog iQ W)(K:W.ShapedOpen prog):
  Cl prog 6 args W fun e k=>∃v,e= .returned v/\Rows.patchTellsSpec.post enc prog f6 false true false false W args v k:=by
 have w:=u;obtain⟨p,q,r,s,rfl,aa,ab⟩:=u;have g:DataW.TrodAll enc prog W 0 (fun _=>true) true f6.params.toList args.toList d p:=r;rw[params6]at g y;obtain⟨A,ae,m,X,i,q0,Y,rfl,rfl,c,z⟩:=trodAll_cons g;obtain⟨rfl,rfl,rfl⟩:=trodAll_nil z;obtain rfl:args=#[A]:=by cases args;simp_all
 obtain⟨rfl,rfl⟩:=trodVars_none s;clear r g s z;obtain⟨B,U,D,rfl⟩:=okWide_slice underlying23 (y 0 23 A rfl rfl);have L:=c;obtain⟨u0,c⟩:=c
 have Z:Rows.uptoBulk m+0<=1048576:=by
  have:=of_decide_eq_true R;simpa only[Qo,List.nil_append,Rows.uptoBulkAll]using this
 obtain⟨l,n,pa,ys,O,I,J⟩:=Rt c (show Rows.uptoBulk m<=1048576 by omega);have f:[Vl.slice B U D]=[Vl.slice l pa.length n]:=O;rw[List.cons.injEq]at f;rw[f.1];obtain⟨G,M,E⟩:=jv F K;refine(jk pa (.slice l pa.length n) ys W G M E I J).mono fun e k ⟨P,h⟩=> ?_
 subst P;rw[<-f.1]
 refine⟨_,rfl,Pq (pa:=i++[]) (pv:=[]) w (fun _ _ _=>trodAll_cons_mk (shut_bool underlying4 _) trodAll_mk0) (fun V S=> ?_) (fun _ _=>rfl) rfl
  (h.keptBut _) (fun b ad N=>h.frozen N Zh) (ok_one Yb rfl (okWide_bool_mk underlying4 _))⟩
 have Q:∀x,x∈i->x.block<W.heap.size:=fun x a=>w.lt x (by simp[a])
 have T:∀x,x∈i->V x.block=true:=fun x a=>S x (by simp[a])
 exact trodAll_cons_mk (WideElems.Trod_stays Me Yb (of_decide_eq_true Yb) L (fun x a=>h.sameAt (Q x a)) (fun x a=>T x a)) trodAll_mk0
def jU:Array Vl:=#[.slice none 0 0]
theorem iW(os:Os){H:Type}(enc:Ti×Vl->H):∃a,DataW.whole enc prog ((ie os).forCall (fun _ _=>0) ⟨#[],jU,[]⟩).memory f6.params.toList Rows.patchTellsSpec.vars false jU.toList 8=some ([.nil],[],a):=
 ⟨[],Yb⟩
theorem iN(os:Os)(l:os.Started)(H:Type)(enc:Ti×Vl->H)(F:Stop.Interp):
  ReturnsInHanded {} checked os 6 .any ((Rows.OpenSpec.upto Rows.patchTellsSpec).preRow enc prog f6 Rows.patchTellsUptoRow.domain false Rows.patchTellsUptoRow.laid) (((Rows.OpenSpec.upto Rows.patchTellsSpec).at F).post enc prog f6 false true false false):=by
 obtain⟨m,j⟩:=iW os enc
 refine returnsInHanded_of_row (C:=checked) (s:=Rows.OpenSpec.upto Rows.patchTellsSpec) Xm l Yb func6
  (witness_row_atRef (enc:=enc) (C:=checked) false (ie os) jU rfl Yb Yb Yb
   (OpenSpec.preRow_of_cond 8 j Yb (fun k h=>by cases h;kernel_rfl) Yb (jj os _))) ?_
 intro W base args b c a i f _ g _ d e _;exact iw H enc W base args b c a i f (g _ rfl) d e
theorem jN{a b:Bool}(h:a=true)(k:b=true):(a&&b)=true:=by rw[h,k];rfl
theorem iq:prog.funcNamed Rows.patchTellsUptoRow.func=some 6:=Yb
theorem iU:joinedFacts prog 6 f6 (Rows.OpenSpec.upto Rows.patchTellsSpec).bare Rows.patchTellsUptoRow=true:=by
 unfold joinedFacts
 iterate 31 refine jN ?_ ?_
 all_goals as_aux_lemma=>kernel_rfl
theorem i8:f6.isInstance prog Rows.patchTellsUptoRow.origin Rows.patchTellsUptoRow.targs:=of_decide_eq_true Yb
theorem ja:f6.isWrapper prog Rows.patchTellsUptoRow.wrapper Rows.patchTellsUptoRow.mainSum:=by
 unfold Func.isWrapper;first|(rw[Qr (by decide+kernel)];kernel_rfl)|(rw[Qs (by decide+kernel)];exact⟨rfl,rfl⟩)
theorem i9:Rows.PatchTellsUptoSaid:=
 OpenClaim.holds_of_cond 6 f6 rfl rfl rfl rfl rfl rfl rfl ⟨rfl,rfl,rfl,rfl,rfl⟩ rfl rfl rfl rfl rfl iq func6 iU i8 ja
  (fun os a H enc _ F=>by rw[OpenClaim.pre_eq_preRow];exact iN os a H enc F)
theorem iV(f:FuncId)(a:Func)(c:Tryz.pinned.checked.prog.funcNamed Rows.patchTellsUptoRow.func=some f)(d:Tryz.pinned.checked.prog.funcs[f]? =some a):
  true=Tryz.pinned.checked.prog.looks []/\∀(j:Nat) t,a.params[j]? =some t->Tryz.pinned.checked.prog.wantsStandIn t=false:=by
 obtain rfl:f=6:=Q5 (iq.symm.trans c)|>.symm
 obtain rfl:a=f6:=(Q5 (func6.symm.trans d)).symm;refine⟨Yb,fun j t b=> ?_⟩;rw[params6]at b
 have e:t=23:=by
  have:=Array.mem_of_getElem? b;simpa using this
 subst e;exact(show prog.wantsStandIn 23=false by kernel_rfl)
theorem patchTells_card:Rows.PatchTellsUptoCardSaid:=
 Claim7.holds_tied_plain_at .later [] _ _ _ _ i9 (fun _ h=>by cases h) Yb (fun _ h=>by cases h) patchTellsUpto_row_tie rfl ⟨rfl,rfl⟩ Yb rfl iV Yb
end
#print axioms patchTells_card
end Go.Proofs.YtkfnkppdhcaeoaaGreatDoor

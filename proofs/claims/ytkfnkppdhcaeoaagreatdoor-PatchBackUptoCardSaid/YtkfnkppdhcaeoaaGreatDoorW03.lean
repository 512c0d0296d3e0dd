/- PROVED HERE: for every list of steps and every list of operations that are together of bulk at most 1048576, affidavitlaw17.PatchBack returns true, and its arguments read behind the call as they read before: the row and its tied card, Rows.PatchBackUptoCardSaid. CONDITIONS: the package variables that the row lists hold at the call what it lists (tied by the card to the text of the program); no other. -/
import Derived.Test.YtkfnkppdhcaeoaaGreatDoorM28
import Derived.Test.YtkfnkppdhcaeoaaGreatDoorW02
set_option maxRecDepth 100000
set_option maxHeartbeats 32000000
set_option linter.all false
namespace Go.Proofs.YtkfnkppdhcaeoaaGreatDoor
open Go renaming Calls->Cl,TypeId->Ti,Value->Vl,World->Wl
section
open _root_.Go.Proofs.Tryz
open Go Go.RowKit Go.ChangeShapes Go.WideShapes Go.ChangeAt
theorem cardBN(H:Type)(enc:Ti×Vl->H)(W:Wl)(base:Nat)(args:Array Vl)(g C:List (DataW H))(Q:List MemPlace)(n:∀(j:Nat) t v,f10.params[j]? =some t->args[j]? =some v->Vl.okWide prog W .any base t v)(F:DataW.Whole enc prog f10.params.toList Rows.patchBackSpec.vars false W args.toList g C Q)(ah:Rows.uptoSmall H (g++C)=true)(T:laidMetH prog BX W)(aa:W.ShapedOpen prog):
  Cl prog 10 args W fun e s=>∃v,e= .returned v/\Rows.patchBackSpec.post enc prog f10 false true false false W args v s:=by
 have G:=F;obtain⟨p,q,D,E,rfl,an,ap⟩:=F;have m:DataW.TrodAll enc prog W 0 (fun _=>true) true f10.params.toList args.toList g p:=D;rw[params10]at m n;obtain⟨M,ar,y,aj,o,q0,al,rfl,rfl,c,K⟩:=trodAll_cons m;obtain⟨N,au,z,ak,r,q1,rfl,rfl,rfl,d,L⟩:=trodAll_cons K;obtain⟨rfl,rfl,rfl⟩:=trodAll_nil L;obtain rfl:args=#[M,N]:=by cases args;simp_all
 obtain⟨rfl,rfl⟩:=trodVars_none E;clear D m E K L;obtain⟨O,n0,R,rfl⟩:=okWide_slice underlying22 (n 0 22 M rfl rfl);obtain⟨P,n1,c1,rfl⟩:=okWide_slice underlying23 (n 1 23 N rfl rfl);have ab:=c;have ad:=d;obtain⟨u0,c⟩:=c;obtain⟨u1,d⟩:=d
 have am:Rows.uptoBulk y+(Rows.uptoBulk z+0)<=1048576:=by
  have:=of_decide_eq_true ah;simpa only[Qo,List.nil_append,Rows.uptoBulkAll]using this
 obtain⟨u,A,l,xs,af,Y,Z,hw,ao⟩:=MA c (show Rows.uptoBulk y<=1048576 by omega);obtain⟨w,B,pa,ys,ag,V,X⟩:=Rt d (show Rows.uptoBulk z<=1048576 by omega);have i:[Vl.slice O n0 R]=[Vl.slice u l.length A]:=af;have k:[Vl.slice P n1 c1]=[Vl.slice w pa.length B]:=ag;rw[List.cons.injEq]at i k;rw[i.1,k.1];obtain⟨U,ae,S⟩:=F1 T aa;refine(F2 l pa (.slice u l.length A) (.slice w pa.length B) xs ys W U ae S ⟨Y,Z,hw,Zj⟩ V X).mono fun e s ⟨he,f⟩=> ?_
 subst he;rw[<-i.1,<-k.1]
 refine⟨_,rfl,Pq (pa:=o++(r++[])) (pv:=[]) G (fun _ _ _=>trodAll_cons_mk (shut_bool underlying4 _) trodAll_mk0) (fun sp ai=> ?_) (fun _ _=>rfl) rfl
  (f.keptBut _) (fun b aq hb=>f.frozen hb Zh) (ok_one Yb rfl (okWide_bool_mk underlying4 _))⟩
 have I:∀x,x∈o\/x∈r->x.block<W.heap.size:=fun x a=>G.lt x (by rcases a with h|h<;>simp[h])
 have J:∀x,x∈o\/x∈r->sp x.block=true:=fun x a=>ai x (by rcases a with h|h<;>simp[h])
 exact trodAll_cons_mk (WideElems.Trod_stays Me Yb (of_decide_eq_true Yb) ab (fun x a=>f.sameAt (I x (.inl a))) (fun x a=>J x (.inl a)))
  (trodAll_cons_mk (WideElems.Trod_stays Me Yb (of_decide_eq_true Yb) ad (fun x a=>f.sameAt (I x (.inr a))) (fun x a=>J x (.inr a))) trodAll_mk0)
def cardGG:Array Vl:=#[.slice none 0 0,.slice none 0 0]
theorem cardDB(os:Os){H:Type}(enc:Ti×Vl->H):∃a,DataW.whole enc prog ((A2 os).forCall (fun _ _=>0) ⟨#[],cardGG,[]⟩).memory f10.params.toList Rows.patchBackSpec.vars false cardGG.toList 8=some ([.nil,.nil],[],a):=
 ⟨[],Yb⟩
theorem cardC1(os:Os)(l:os.Started)(H:Type)(enc:Ti×Vl->H)(F:Stop.Interp):
  ReturnsInHanded {} checked os 10 .any ((Rows.OpenSpec.upto Rows.patchBackSpec).preRow enc prog f10 Rows.patchBackUptoRow.domain false Rows.patchBackUptoRow.laid) (((Rows.OpenSpec.upto Rows.patchBackSpec).at F).post enc prog f10 false true false false):=by
 obtain⟨m,j⟩:=cardDB os enc
 refine returnsInHanded_of_row (C:=checked) (s:=Rows.OpenSpec.upto Rows.patchBackSpec) Xm l Yb func10
  (witness_row_atRef (enc:=enc) (C:=checked) false (A2 os) cardGG rfl Yb Yb Yb
   (OpenSpec.preRow_of_cond 8 j Yb (fun k h=>by cases h;kernel_rfl) Yb (F0 os _))) ?_
 intro W base args b c a i f _ g _ d e _;exact cardBN H enc W base args b c a i f (g _ rfl) d e
theorem cardF3{a b:Bool}(h:a=true)(k:b=true):(a&&b)=true:=by rw[h,k];rfl
theorem cardBB:prog.funcNamed Rows.patchBackUptoRow.func=some 10:=Yb
theorem cardC5:joinedFacts prog 10 f10 (Rows.OpenSpec.upto Rows.patchBackSpec).bare Rows.patchBackUptoRow=true:=by
 unfold joinedFacts
 iterate 31 refine cardF3 ?_ ?_
 all_goals as_aux_lemma=>kernel_rfl
theorem cardFr:f10.isInstance prog Rows.patchBackUptoRow.origin Rows.patchBackUptoRow.targs:=of_decide_eq_true Yb
theorem cardFF:f10.isWrapper prog Rows.patchBackUptoRow.wrapper Rows.patchBackUptoRow.mainSum:=by
 unfold Func.isWrapper;first|(rw[Qr (by decide+kernel)];kernel_rfl)|(rw[Qs (by decide+kernel)];exact⟨rfl,rfl⟩)
theorem cardFC:Rows.PatchBackUptoSaid:=
 OpenClaim.holds_of_cond 10 f10 rfl rfl rfl rfl rfl rfl rfl ⟨rfl,rfl,rfl,rfl,rfl⟩ rfl rfl rfl rfl rfl cardBB func10 cardC5 cardFr cardFF
  (fun os a H enc _ F=>by rw[OpenClaim.pre_eq_preRow];exact cardC1 os a H enc F)
theorem cardC9(f:FuncId)(a:Func)(c:Tryz.pinned.checked.prog.funcNamed Rows.patchBackUptoRow.func=some f)(d:Tryz.pinned.checked.prog.funcs[f]? =some a):
  true=Tryz.pinned.checked.prog.looks []/\∀(j:Nat) t,a.params[j]? =some t->Tryz.pinned.checked.prog.wantsStandIn t=false:=by
 obtain rfl:f=10:=Q5 (cardBB.symm.trans c)|>.symm
 obtain rfl:a=f10:=(Q5 (func10.symm.trans d)).symm;refine⟨Yb,fun j t b=> ?_⟩;rw[params10]at b
 have e:t=22\/t=23:=by
  have:=Array.mem_of_getElem? b;simp at this
  rcases this with h|h<;>simp[h]
 rcases e with rfl|rfl
 .exact(show prog.wantsStandIn 22=false by kernel_rfl)
 .exact(show prog.wantsStandIn 23=false by kernel_rfl)
theorem patchBack_card:Rows.PatchBackUptoCardSaid:=
 Claim7.holds_tied_plain_at .later [] _ _ _ _ cardFC (fun _ h=>by cases h) Yb (fun _ h=>by cases h) patchBackUpto_row_tie rfl ⟨rfl,rfl⟩ Yb rfl cardC9 Yb
end
#print axioms patchBack_card
end Go.Proofs.YtkfnkppdhcaeoaaGreatDoor

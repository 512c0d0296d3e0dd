/- PROVED HERE: for every list of steps and every list of operations that are together of bulk at most 1048576, affidavitlaw17.PatchApplies returns true: the row and its tied card, Rows.PatchAppliesUptoCardSaid. CONDITIONS: the package variables that the row lists hold at the call what it lists (tied by the card to the text of the program); no other. -/
import Derived.Test.YtpdnhfkacgdocaaGreatDoorM26
set_option maxRecDepth 100000
set_option maxHeartbeats 32000000
set_option linter.all false
namespace Go.Proofs.YtpdnhfkacgdocaaGreatDoor
open Go renaming Calls->Cl,TypeId->Ti,Value->Vl,World->Wl
open Go.Value renaming agg->nA,iface->nF,int->nI,pointer->nP,slice->nS,tuple->nT
open Go.IntKind renaming i64->nX
open Go.Ending renaming returned->nR
open Option renaming none->nN,some->nM
section
open _root_.Go.Proofs.Tryz
open Go Go.Shelf Go.RowKit Go.Lib Tree Ptr
theorem qR:∀{l:List Bq} {t:Tr} {u:List CW} {i k j:Nat},BR t u i l= .no k j->k≠0
 |[],t,u,i,k,j,h=>by simp only[BR]at h;cases h
 |o::l,t,u,i,k,j,h=>by
  simp only[BR]at h;cases a:Gz t o with
  |no e=>rw[a]at h;injection h with b _;subst b;exact Zq a
  |yes s v=>rw[a]at h;exact qR h
theorem rP(l:List Ap)(g:List Bq)(sl so:Vl)(xs ys:List Vl)(w:Wl)(hL:Br w)(aH:10<=w.heap.size)(W:aq w sl l xs)(hA:UG w so g ys):
  Cl prog 3 #[sl,so] w (BU true w):=by
 have HM:=hZ (WL l sl xs w W.row W.at_ W.small W.many);have HL:=hZ hL;have ao:=hZ aH;have n:=hZ hA;obtain⟨aU,aV,rfl,_⟩:=W.row.form;obtain⟨Y,Z,rfl,_⟩:=hA.row.form;obtain⟨ln,aL⟩:=Ue l.length;obtain⟨no,an⟩:=Ue g.length;have S:=hZ an;rw[<-aL]at HM|-;rw[<-an];have hl:=hA.many;rw[<-an]at hl;have av:=UD (∀p∈g,p.steps.length<=4294967296/\∀s∈p.steps,s.keys.length<=4294967296) fun p hp=>⟨(hA.small p hp).len,fun s hs=>by have:=((hA.small p hp).steps s hs).keys;omega⟩;have aS:=W.small;clear hL aH W hA aL an;cases am:AS l with
 |none=>
  rw[am]at HM;clear am hl n S av;go_enter func3,ntmps3;go_wp2_with fail;refine HM.o.mono ?_;rintro e w1 ⟨rfl,y⟩;have H1:=hZ y;clear y
  go_wp2_with(first
   |(refine kM w1 Ya ?_;intro w2 _ hN;have m:=hZ (H1.o.trans hN.o);clear hN)
   |(go_at_call 6;refine(Ko w2 (HL.o.kept m.o) (Q7 ao.o m.o.size)).mono ?_;rintro e w3 ⟨rfl,j⟩;have N:=hZ (m.o.trans j);clear j))
  go_ret;exact⟨rfl,N.o⟩
 |some t=>
  rw[am]at HM;clear am aS;go_enter func3,ntmps3;go_wp2_with fail;refine HM.o.mono ?_;rintro e w1 ⟨⟨F,Fn,cs,E,z,hv,aJ,hT,aI,aK⟩,y⟩;obtain⟨H,I,J,K,L,M,rfl⟩:=kt (E7 hv).2;have z:e= nR (nT #[nP (nM ⟨E,0,nN⟩),nA #[H,I,J,K,L,M],.bool true]):=z;subst z;have H1:=hZ y;have HT:=hZ hT;have HV:=hZ hv;have al:=UD (∀b,F b->b<w1.heap.size) (fun b q=>(aJ b q).2);have ak:=UD (∀b,Fn b->b<w1.heap.size) (fun b q=>(aI b q).2);have aj:=hZ aK;have aD:=hZ (E7 hv).1;clear y hv aJ hT aI aK;go_wp2_with(refine kM w1 aD.o ?_;intro w2 ai B);have m:=UD (Chg w w2 []) (H1.o.trans B.o);have aG:=UD (∀d,Chg w2 d []->Cl prog 6 #[] d (BU true d)) fun d f=>Ko d (HL.o.kept (m.o.trans f)) (Q7 ao.o (m.o.trans f).size)
  have aB:=UD (∀d,Chg w2 d []->Cl prog 12 #[nP (nM ⟨E,0,nN⟩),nA #[H,I,J,K,L,M]] d (BU true d)) fun d f=>
   dt t F Fn E [H,I,J,K,L,M] d aj.o (HT.o.kept (B.o.trans f) ak.o) (fun b q=>Q6 (ak.o b q) (B.o.trans f).size) (AL.kept ((B.o.trans f).keepsF al.o) (fun _ h=>h) _ _ HV.o) (fun b q=>Q6 (al.o b q) (B.o.trans f).size)
  have az:=UD (∀d,Chg w2 d []->Cl prog 7 #[nS Y no Z] d (jb g d)) fun d f=>by
   have:=iD g _ ys d (n.o.row.kept (m.o.trans f)) (Cc.kept (m.o.trans f) n.o.at_) n.o.small n.o.many;rwa[<-S.o]at this
  have aC:=UD (iI w2 (nS Y no Z) g) (by have:=(iI.ofR n.o.row n.o.at_).kept m.o;rwa[<-S.o]at this)
  have ad:∀d r v G,g.length<=65536->Chg w2 d []->EW w2 d g r v G->Cl prog 8 #[nP (nM ⟨E,0,nN⟩),r] d (V8 (BR t [] 0 g) d):=fun d r v G A f D=>
   IB Fn E t g r v d ⟨HL.o.kept (m.o.trans f),Q7 ao.o (m.o.trans f).size,HT.o.kept (B.o.trans f) ak.o,fun b q=>Q6 (ak.o b q) (B.o.trans f).size,aj.o,D.row,D.ops.toIn,n.o.small,A⟩
  have ag:∀d,g.length<=65536->Chg w2 d []->Cl prog 9 #[nA #[H,I,J,K,L,M],nS Y no Z] d (pQ (BR t [] 0 g) d):=fun d A f=>by
   have:=rB t F [H,I,J,K,L,M] g (nS Y g.length Z) ys d (AL.kept ((B.o.trans f).keepsF al.o) (fun _ h=>h) _ _ HV.o) (fun b q=>Q6 (al.o b q) (B.o.trans f).size) aj.o (n.o.row.kept (m.o.trans f)) (Cc.kept (m.o.trans f) n.o.at_) n.o.small A;rwa[<-S.o]at this
  have aR:(∃(ti:Ti) (x:Vl) (k i:Int),(∀d r v G,Chg w2 d []->EW w2 d g r v G->Cl prog 8 #[nP (nM ⟨E,0,nN⟩),r] d fun e w'=>e= nR (nT #[nP nN,nF ti x])/\Chg d w' [])/\
    (∀d,Chg w2 d []->Cl prog 9 #[nA #[H,I,J,K,L,M],nS Y no Z] d fun e w'=>(∃cs:List Vl,(∀u∈cs,u.oneCell'=true)/\cs.length=6/\e= nR (nT #[nA cs.toArray,nS nN 0 0,nI nX k,nI nX i]))/\Chg d w' [])/\
    k≠0/\∀d,Cl prog 13 #[nF ti x,nI nX k,nI nX i] d (BU true d))\/
   (∃(u:Tr) (un:List CW),(∀d r v G,Chg w2 d []->EW w2 d g r v G->Cl prog 8 #[nP (nM ⟨E,0,nN⟩),r] d (F9 u d))/\
    (∀d,Chg w2 d []->Cl prog 9 #[nA #[H,I,J,K,L,M],nS Y no Z] d (pQ (.yes u un) d))/\Bt u):=by
   by_cases A:65536<g.length
   .refine .inl ⟨_,_,3,-1,fun d r v G f D=> ?_,fun d f=> ?_,ZM,fun d=>iR 3 (-1) ZM ZM d⟩
    .obtain⟨a,c,rfl,_⟩:=D.row.form;exact dq E a _ c d A n.o.many
    .exact qt [H,I,J,K,L,M] ⟨aD.o,rfl⟩ Y no Z d (by rw[S.o];exact A) hl
   have A:g.length<=65536:=Zj;cases hr:BR t [] 0 g with
   |no k i=>
    have hk:(k:Int)≠0:=by have:=qR hr;omega
    rw[hr]at ad ag;exact .inl ⟨_,_,k,i,fun d r v G f D=>ad d r v G A f D,fun d f=>ag d A f,hk,fun d=>iE k i hk Zj d⟩
   |yes u un=>
    rw[hr]at ad ag;exact .inr ⟨u,un,fun d r v G f D=>ad d r v G A f D,fun d f=>ag d A f,KD aj.o (fun o ho=>(n.o.small o ho).toB) hr⟩
  clear ad ag;rcases aR with⟨ti,x,k,i,y,h2,j,h4⟩|⟨u,un,y,h2,j⟩
  .have ar:=hZ y;have ax:=hZ h2;have au:=hZ h4;have hk:(k !=0)=true:=bne_iff_ne.2 j;clear y h2 j h4
   go_wp2_with(first
     |(go_at_call 7;refine(az.o _ (by exact cg cR)).mono ?_;rintro e w3 ⟨s3,x3,G3,rfl,j,ah⟩;have ae:=hZ j;have af:=hZ (iI.ofAt j);obtain⟨a3,c3,rfl,_⟩:=j.row.form;rw[<-S.o]at ae af|-;have N:=hZ ah;clear j ah)
     |(go_at_call 8;refine(ar.o w3 _ x3 G3 N.o ae.o).mono ?_;rintro e w4 ⟨rfl,h4⟩;have ap:=hZ h4;have O:=hZ (N.o.trans h4);clear h4)
     |(refine uN (ai.o.kept O.o) ?_)
     |(go_at_call 9;refine(ax.o w4 O.o).mono ?_;rintro e w5 ⟨⟨aQ,X,q2,z⟩,h5⟩;obtain⟨d0,d1,d2,d3,d4,d5,rfl⟩:=kt q2;have z:e= nR (nT #[nA #[d0,d1,d2,d3,d4,d5],nS nN 0 0,nI nX k,nI nX i]):=z;subst z;have aw:=hZ X;have P:=hZ h5;clear X q2 h5)
     |(refine kM w5 aw.o ?_;intro w6 ay C;have H6:=UD (Chg w2 w6 []) (O.o.trans (P.o.trans C.o)))
     |(go_at_call 10;refine(lj g _ _ w6 (af.o.kept (ap.o.trans (P.o.trans C.o))) (aC.o.kept H6.o) n.o.many av.o).mono ?_;rintro e w7 ⟨rfl,T⟩;have aa:=hZ T;have Q:=hZ (H6.o.trans T);obtain⟨gl,gf,g0,g1,g2,g3,g4,g5⟩:=(ai.o.kept Q.o).cells6;clear T)
     |(go_at_call 12;refine(aB.o w7 Q.o).mono ?_;rintro e w8 ⟨rfl,U⟩;have ab:=hZ U;have H8:=hZ (Q.o.trans U);clear U)
     |(go_at_call 13;refine(au.o w8).mono ?_;rintro e w9 ⟨rfl,V⟩;have R:=hZ V;have H9:=hZ (H8.o.trans V);clear V)
     |(go_at_call 6;refine(aG.o w9 H9.o).mono ?_;rintro e wz ⟨rfl,hz⟩;have HZ:=hZ (H9.o.trans hz);clear hz))
   go_ret;exact⟨rfl,m.o.trans HZ.o⟩
  .have ar:=hZ y;have ax:=hZ h2;have aM:=hZ j;have au:=UD (∀d,Cl prog 13 #[.nilIface,nI nX 0,nI nX 0] d (BU true d)) fun d=>jK 0 d;clear y h2 j
   go_wp2_with(first
     |(go_at_call 7;refine(az.o _ (by exact cg cR)).mono ?_;rintro e w3 ⟨s3,x3,G3,rfl,j,ah⟩;have ae:=hZ j;have af:=hZ (iI.ofAt j);obtain⟨a3,c3,rfl,_⟩:=j.row.form;rw[<-S.o]at ae af|-;have N:=hZ ah;clear j ah)
     |(go_at_call 8;refine(ar.o w3 _ x3 G3 N.o ae.o).mono ?_;rintro e w4 ⟨F4,tu,rfl,t1,t2,t3,t4,t5⟩;have ap:=hZ t3;have O:=hZ (N.o.trans t3);have aP:=hZ t1;have aF:=hZ t2;clear t1 t2 t3 t4 t5)
     |(refine uN (ay.o.kept (aa.o.trans (ab.o.trans R.o))) ?_)
     |(refine uN (ai.o.kept O.o) ?_)
     |(go_at_call 9;refine(ax.o w4 O.o).mono ?_;rintro e w5 ⟨⟨F5,aQ,s5,x5,G5,z,X,q2,q3⟩,h5⟩;obtain⟨d0,d1,d2,d3,d4,d5,rfl⟩:=kt (E7 X).2;obtain⟨a5,c5,rfl,_⟩:=q3.row.form;have z:e= nR (nT #[nA #[d0,d1,d2,d3,d4,d5],nS a5 _ c5,nI nX 0,nI nX 0]):=z;subst z;have aw:=hZ (E7 X).1;have aO:=hZ X;have aE:=hZ q2;have aN:=hZ (iI.ofAt q3);rw[List.length_map]at aN|-;have P:=hZ h5;clear X q2 q3 h5)
     |(refine kM w5 aw.o ?_;intro w6 ay C;have H6:=UD (Chg w2 w6 []) (O.o.trans (P.o.trans C.o)))
     |(go_at_call 10;refine(lj g _ _ w6 (af.o.kept (ap.o.trans (P.o.trans C.o))) (aC.o.kept H6.o) n.o.many av.o).mono ?_;rintro e w7 ⟨rfl,T⟩;have aa:=hZ T;have Q:=hZ (H6.o.trans T);obtain⟨gl,gf,g0,g1,g2,g3,g4,g5⟩:=(ai.o.kept Q.o).cells6;clear T)
     |(go_at_call 12;have aT:=R.o;refine(dt u F5 F4 tu [d0,d1,d2,d3,d4,d5] w9 aM.o (aP.o.kept (P.o.trans (C.o.trans (aa.o.trans (ab.o.trans R.o)))) aF.o) (fun b q=>Q6 (aF.o b q) (P.o.trans (C.o.trans (aa.o.trans (ab.o.trans R.o)))).size) (AL.kept ((C.o.trans (aa.o.trans (ab.o.trans R.o))).keepsF aE.o) (fun _ h=>h) _ _ aO.o) (fun b q=>Q6 (aE.o b q) (C.o.trans (aa.o.trans (ab.o.trans R.o))).size)).mono ?_;rintro e wi ⟨rfl,hi⟩;have aA:=hZ (H9.o.trans hi);clear hi aT)
     |(go_at_call 12;refine(aB.o w7 Q.o).mono ?_;rintro e w8 ⟨rfl,U⟩;have ab:=hZ U;have H8:=hZ (Q.o.trans U);clear U)
     |(go_at_call 13;refine(au.o w8).mono ?_;rintro e w9 ⟨rfl,V⟩;have R:=hZ V;have H9:=hZ (H8.o.trans V);clear V)
     |(go_at_call 6;refine(aG.o _ aA.o).mono ?_;rintro e wz ⟨rfl,hz⟩;have HZ:=hZ (aA.o.trans hz);clear hz))
   go_ret;exact⟨rfl,m.o.trans HZ.o⟩
end
section
open _root_.Go.Proofs.Tryz
open Go Go.RowKit Go.ChangeShapes Go.WideShapes Go.ChangeAt
theorem qL(H:Type)(enc:Ti×Vl->H)(W:Wl)(base:Nat)(args:Array Vl)(ds B:List (DataW H))(P:List MemPlace)(m:∀(j:Nat) t v,f3.params[j]? =nM t->args[j]? =nM v->Vl.okWide prog W .any base t v)(E:DataW.Whole enc prog f3.params.toList Rows.patchAppliesSpec.vars false W args.toList ds B P)(ae:Rows.uptoSmall H (ds++B)=true)(S:laidMetH prog Ul W)(Y:W.ShapedOpen prog):
  Cl prog 3 args W fun e r=>∃v,e= nR v/\Rows.patchAppliesSpec.post enc prog f3 false true false false W args v r:=by
 have F:=E;obtain⟨p,q,C,D,rfl,ak,am⟩:=E;have k:DataW.TrodAll enc prog W 0 (fun _=>true) true f3.params.toList args.toList ds p:=C;rw[params3]at k m;obtain⟨L,ao,w,ag,n,q0,ai,rfl,rfl,c,J⟩:=trodAll_cons k;obtain⟨M,ap,y,ah,o,q1,rfl,rfl,rfl,d,K⟩:=trodAll_cons J;obtain⟨rfl,rfl,rfl⟩:=trodAll_nil K;obtain rfl:args=#[L,M]:=by cases args;simp_all
 obtain⟨rfl,rfl⟩:=trodVars_none D;clear C k D J K;obtain⟨N,n0,Q,rfl⟩:=okWide_slice underlying22 (m 0 22 L rfl rfl);obtain⟨O,n1,c1,rfl⟩:=okWide_slice underlying23 (m 1 23 M rfl rfl);have Z:=c;have aa:=d;obtain⟨u0,c⟩:=c;obtain⟨u1,d⟩:=d
 have aj:Rows.uptoBulk w+(Rows.uptoBulk y+0)<=1048576:=by
  have:=of_decide_eq_true ae;simpa only[Qo,List.nil_append,Rows.uptoBulkAll]using this
 obtain⟨s,z,l,xs,ab,V,X,hw,al⟩:=MA c (show Rows.uptoBulk w<=1048576 by omega);obtain⟨u,A,pa,ys,ad,U,_⟩:=Rt d (show Rows.uptoBulk y<=1048576 by omega);have g:[Vl.slice N n0 Q]=[Vl.slice s l.length z]:=ab;have i:[Vl.slice O n1 c1]=[Vl.slice u pa.length A]:=ad;rw[List.cons.injEq]at g i;rw[g.1,i.1];obtain⟨T,R⟩:=Yv S Y;refine(rP l pa (nS s l.length z) (nS u pa.length A) xs ys W T R ⟨V,X,hw,Zj⟩ U).mono fun e r ⟨he,f⟩=> ?_;subst he;rw[<-g.1,<-i.1]
 refine⟨_,rfl,Pq (pa:=n++(o++[])) (pv:=[]) F (fun _ _ _=>trodAll_cons_mk (shut_bool underlying4 _) trodAll_mk0) (fun sp af=> ?_) (fun _ _=>rfl) rfl
  (f.keptBut _) (fun b an hb=>f.frozen hb Zh) (ok_one Yb rfl (okWide_bool_mk underlying4 _))⟩
 have G:∀x,x∈n\/x∈o->x.block<W.heap.size:=fun x a=>F.lt x (by rcases a with h|h<;>simp[h]);have I:∀x,x∈n\/x∈o->sp x.block=true:=fun x a=>af x (by rcases a with h|h<;>simp[h])
 exact trodAll_cons_mk (WideElems.Trod_stays Me Yb (of_decide_eq_true Yb) Z (fun x a=>f.sameAt (G x (.inl a))) (fun x a=>I x (.inl a)))
  (trodAll_cons_mk (WideElems.Trod_stays Me Yb (of_decide_eq_true Yb) aa (fun x a=>f.sameAt (G x (.inr a))) (fun x a=>I x (.inr a))) trodAll_mk0)
def tY:Array Vl:=#[nS nN 0 0,nS nN 0 0]
theorem rn(os:Os){H:Type}(enc:Ti×Vl->H):∃a,DataW.whole enc prog ((Kn os).forCall (fun _ _=>0) ⟨#[],tY,[]⟩).memory f3.params.toList Rows.patchAppliesSpec.vars false tY.toList 8=nM ([.nil,.nil],[],a):=
 ⟨[],Yb⟩
theorem q8(os:Os)(j:os.Started)(H:Type)(enc:Ti×Vl->H)(F:Stop.Interp):
  ReturnsInHanded {} checked os 3 .any ((Rows.OpenSpec.upto Rows.patchAppliesSpec).preRow enc prog f3 Rows.patchAppliesUptoRow.domain false Rows.patchAppliesUptoRow.laid) (((Rows.OpenSpec.upto Rows.patchAppliesSpec).at F).post enc prog f3 false true false false):=by
 obtain⟨l,i⟩:=rn os enc
 refine returnsInHanded_of_row (C:=checked) (s:=Rows.OpenSpec.upto Rows.patchAppliesSpec) Xm j Yb func3
  (witness_row_atRef (enc:=enc) (C:=checked) false (Kn os) tY rfl Yb Yb Yb
   (OpenSpec.preRow_of_cond 8 i Yb (fun k g=>by cases g;kernel_rfl) Yb (WK os _))) ?_
 intro W base args ds b a h e _ f _ c d _;exact qL H enc W base args ds b a h e (f _ rfl) c d
theorem tL{a b:Bool}(h:a=true)(k:b=true):(a&&b)=true:=by rw[h,k];rfl
theorem qz:prog.funcNamed Rows.patchAppliesUptoRow.func=nM 3:=Yb
theorem rl:joinedFacts prog 3 f3 (Rows.OpenSpec.upto Rows.patchAppliesSpec).bare Rows.patchAppliesUptoRow=true:=by
 unfold joinedFacts;iterate 31 refine tL ?_ ?_
 all_goals as_aux_lemma=>kernel_rfl
theorem rC:f3.isInstance prog Rows.patchAppliesUptoRow.origin Rows.patchAppliesUptoRow.targs:=of_decide_eq_true Yb
theorem rE:f3.isWrapper prog Rows.patchAppliesUptoRow.wrapper Rows.patchAppliesUptoRow.mainSum:=by
 unfold Func.isWrapper;first|(rw[Qr (by decide+kernel)];kernel_rfl)|(rw[Qs (by decide+kernel)];exact⟨rfl,rfl⟩)
theorem rD:Rows.PatchAppliesUptoSaid:=
 OpenClaim.holds_of_cond 3 f3 rfl rfl rfl rfl rfl rfl rfl ⟨rfl,rfl,rfl,rfl,rfl⟩ rfl rfl rfl rfl rfl qz func3 rl rC rE
  (fun os a H enc _ F=>by rw[OpenClaim.pre_eq_preRow];exact q8 os a H enc F)
theorem rm(f:FuncId)(a:Func)(c:Tryz.pinned.checked.prog.funcNamed Rows.patchAppliesUptoRow.func=nM f)(d:Tryz.pinned.checked.prog.funcs[f]? =nM a):
  true=Tryz.pinned.checked.prog.looks []/\∀(j:Nat) t,a.params[j]? =nM t->Tryz.pinned.checked.prog.wantsStandIn t=false:=by
 obtain rfl:f=3:=Q5 (qz.symm.trans c)|>.symm
 obtain rfl:a=f3:=(Q5 (func3.symm.trans d)).symm;refine⟨Yb,fun j t b=> ?_⟩;rw[params3]at b
 have e:t=22\/t=23:=by
  have:=Array.mem_of_getElem? b;simp at this;rcases this with h|h<;>simp[h]
 rcases e with rfl|rfl
 .exact(show prog.wantsStandIn 22=false by kernel_rfl)
 .exact(show prog.wantsStandIn 23=false by kernel_rfl)
theorem patchApplies_card:Rows.PatchAppliesUptoCardSaid:=
 Claim7.holds_tied_plain_at .later [] _ _ _ _ rD (fun _ h=>by cases h) Yb (fun _ h=>by cases h) patchAppliesUpto_row_tie rfl ⟨rfl,rfl⟩ Yb rfl rm Yb
end
#print axioms patchApplies_card
end Go.Proofs.YtpdnhfkacgdocaaGreatDoor

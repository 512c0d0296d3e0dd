/- PROVED HERE: for every list of steps and every list of operations that are together of bulk at most 1048576, affidavitlaw17.PatchFresh returns true: the row and its tied card, Rows.PatchFreshUptoCardSaid. CONDITIONS: the package variables that the row lists hold at the call what it lists (tied by the card to the text of the program); no other. -/
import Derived.Test.YtamgbmcchhmojaaGreatDoorM23
set_option maxRecDepth 100000
set_option maxHeartbeats 32000000
set_option linter.all false
namespace Go.Proofs.YtamgbmcchhmojaaGreatDoor
open Go renaming Calls->Cl,TypeId->Ti,Value->Vl,World->Wl
open Go.Value renaming slice->nS
open Go.Ending renaming returned->nR
open Option renaming none->nN,some->nM
section
open _root_.Go.Proofs.Tryz
open Go Go.Shelf Go.RowKit Go.Lib Tree Ptr
theorem za{p:Prop}(h:p:=by exact cg cR):p:=h
theorem wh(l:List Ap)(r:List Bq)(sl so:Vl)(xs ys:List Vl)(w:Wl)(hL:Br w)(aH:dM w)(aF:10<=w.heap.size)(G:aq w sl l xs)(E:UG w so r ys)(aM:∀o∈r,o.path.size<=1048576/\o.frm.size<=1048576):
  Cl prog 3 #[sl,so] w (BU true w):=by
 have K:=hZ (WL l sl xs w G.row G.at_ G.small G.many);have HL:=hZ hL;have ay:=hZ aH;have aa:=hZ aF;have HA:=hZ E;have aw:=UD (vn r) ⟨E.small,E.many⟩;have aL:∀o∈r,T7 o/\o.path.size<=1048576/\o.frm.size<=1048576:=fun o ho=>⟨E.small o ho,aM o ho⟩;obtain⟨bT,bU,rfl,_⟩:=G.row.form;obtain⟨bo,bp,rfl,_⟩:=E.row.form;obtain⟨ln,aJ⟩:=Ue l.length;rw[<-aJ]at K|-;cases al:AS l with
 |none=>
  rw[al]at K;clear hL aH aM aF G E aJ al HA ay aL aw;go_enter func3,ntmps3;go_wp2_with fail;refine K.o.mono ?_;rintro e V ⟨rfl,T⟩;have Y:=hZ T;clear T
  go_wp2_with(first
   |(refine Ae rfl _ _ _ rfl V.heap.size zV ZN ZN 29 zV (BD _ _ zV _ _ rfl rfl) A9 rfl Ya ?_;intro w2 aO aG U;have j:=UD (Chg w w2 []) (Y.o.trans (Chg.step (b:=_) za U (fun i hi hl=>by simp at hi;omega)));clear aO aG U)
   |(go_at_call 5;refine(Ko w2 (HL.o.kept j.o) (Q7 aa.o j.o.size)).mono ?_;rintro e v ⟨rfl,L⟩;have H3:=hZ (j.o.trans L);clear L))
  go_ret;exact⟨rfl,H3.o⟩
 |some t=>
  rw[al]at K;have Q:=hZ aL;clear hL aH aM aF G E aJ al aL;go_enter func3,ntmps3;go_wp2_with fail;refine K.o.mono ?_;rintro e V ⟨⟨F,Fn,cs,tb,rfl,hv,bN,hT,bg,bh⟩,T⟩;have Y:=hZ T;have HT:=hZ hT;have av:=UD (∀b,Fn b->b<V.heap.size) (fun b d=>(bg b d).2);have aZ:=UD ((prog.info? 29).map (·.size)=nM cs.length) (by rw[(E7 hv).2];exact A9);have a0:=hZ (E7 hv).1;have a4:=UD (zV.length=cs.length) (by rw[(E7 hv).2];rfl);have aY:=hZ bh;clear T hv bN hT bg bh;go_wp2_with(refine Ae rfl _ _ _ rfl V.heap.size cs ZN ZN 29 zV (BD _ _ zV _ _ rfl rfl) aZ.o a4.o a0.o ?_;intro w2 aO aG U;have Z:=UD (Chg V w2 []) (Chg.step (b:=_) za U (fun i hi hl=>by simp at hi;omega));clear aO aG U);have j:=UD (Chg w w2 []) (Y.o.trans Z.o);have a3:=UD (∀X,Chg w2 X []->Cl prog 5 #[] X (BU true X)) fun X hx=>Ko X (HL.o.kept (j.o.trans hx)) (Q7 aa.o (j.o.trans hx).size);have k:=UD (vP t r tb bo bp w2) ⟨HL.o.kept j.o,Q7 aa.o j.o.size,ay.o.kept j.o,⟨Fn,HT.o.kept Z.o av.o,fun b d=>Q6 (av.o b d) Z.o.size⟩,⟨ys,HA.o.kept j.o⟩⟩;have bx:=UD (Cl prog 6 #[nS bo r.length bp] w2 (jb r w2)) (by have h:=HA.o.kept j.o;exact iD r _ ys w2 h.row h.at_ h.small h.many);clear HL ay aa HA K Y HT av aZ a0 a4 Z;have Q:=Q;rcases ws aY.o Q.o with⟨aj,am⟩|⟨t1,aI,aj,am⟩|⟨t1,os,aI,bj,aj,am⟩<;>rcases wj Q.o with aN|⟨t2,rs,bi,bk,aN,bl,bm⟩
  all_goals
   have ae:=hZ aj;have af:=hZ am;have a2:=hZ aN;clear aj am aN Q aY
   first
    |(have ag:=hZ bj;clear bj)
    |have ag:=UD (vn []) vn.nil
   try (have bz:=hZ aI;clear aI)
   try (have bA:=hZ bi;have ax:=hZ bk;have a1:=hZ bl;have bB:=hZ bm;clear bi bk bl bm)
   go_wp2_with(first
     |(go_at_call 10;refine(vK _ _ _ w9 ((bC.o.kept (I.o.trans P.o)).ok ag.o)).mono ?_;rintro e ao ⟨rfl,f⟩;have g:=aB.o.new;have ab:=UD (Chg w2 ao []) (f.fresh ((au.o.trans I.o).trans P.o) (fun b d=>by have:=g b d;have:=aU.o.size;have:=u.o.size;omega));have bD:=hZ ((aC.o.kept P.o).keptF f (fun b d=> .inl (by have:=g b d;have:=C.o.size;have:=aX.o.size;omega)));have bK:=hZ (bJ.o.keptF f (fun b d=> .inl (by have:=g b d;have:=C.o.size;have:=aX.o.size;have:=I.o.size;omega)));(try have bI:=hZ ((bH.o.kept (I.o.trans P.o)).keptF f (fun b d=> .inr (g b d).1)));(try have bc:=hZ ((bF.o.kept (I.o.trans P.o)).keptF f (fun b d=> .inl (g b d).2)));clear f g)
     |(go_at_call 6;refine(aC.o.cp ag.o).mono ?_;rintro e w9 ⟨s9,x9,G9,rfl,a,c⟩;obtain⟨wa,wc,rfl,_⟩:=a.row.form;have bJ:=hZ (i4.of a);have P:=UD (Chg A w9 []) c;clear a c)
     |(go_at_call 8;refine(af.o _ _ _ H (k.o.kept au.o)).mono ?_;rintro e A ⟨a8,c8,x8,G8,rfl,a,c⟩;have aC:=UD (i4 H.heap.size A.heap.size A os (nS a8 os.length c8) x8 G8) (i4.of a);have I:=UD (Chg H A []) c;clear a c)
     |(go_at_call 8;refine(af.o _ _ _ H (k.o.kept au.o)).mono ?_;rintro e A ⟨bZ,y8,rfl,a⟩;have aC:=UD (i4 H.heap.size A.heap.size A [] (nS nN 0 0) [] (fun _=>False)) (i4.none _ _);have I:=UD (Chg H A []) a;clear a)
     |(go_at_call 10;refine(vK _ _ G3 O ((bb.o.kept ((u.o.trans B.o).trans C.o)).ok aw.o)).mono ?_;rintro e H ⟨rfl,f⟩;have g:=bb.o.new;have aX:=hZ f;have au:=UD (Chg w2 H []) (f.fresh (((aU.o.trans u.o).trans B.o).trans C.o) (fun b d=>(g b d).1));have bC:=hZ ((aB.o.kept C.o).keptF f (fun b d=> .inl (by have:=g b d;have:=u.o.size;omega)));(try have bH:=hZ ((bG.o.kept (B.o.trans C.o)).keptF f (fun b d=> .inl (g b d).2)));(try have bF:=hZ (bE.o.keptF f (fun b d=> .inl (by have:=g b d;have:=u.o.size;have:=B.o.size;omega))));clear f g)
     |(go_at_call 9;refine(a2.o t tb _ _ m (J.o.kept (u.o.trans B.o))).mono ?_;rintro e O ⟨F6,an,rfl,a,c,n,p,q⟩;have bE:=UD (vm m.heap.size O.heap.size O F6 an t2) (vm.of a c p q);have C:=UD (Chg m O []) n;clear a c n p q)
     |(go_at_call 9;refine(a2.o t tb _ _ m (J.o.kept (u.o.trans B.o))).mono ?_;rintro e O ⟨bY,y6,rfl,a⟩;have C:=UD (Chg m O []) a;clear a)
     |(go_at_call 8;refine(af.o _ _ _ s (J.o.kept u.o)).mono ?_;rintro e m ⟨a5,c5,x5,G5,rfl,a,c⟩;have aB:=UD (i4 s.heap.size m.heap.size m os (nS a5 os.length c5) x5 G5) (i4.of a);have B:=UD (Chg s m []) c;clear a c)
     |(go_at_call 8;refine(af.o _ _ _ s (J.o.kept u.o)).mono ?_;rintro e m ⟨bX,y5,rfl,a⟩;have aB:=UD (i4 s.heap.size m.heap.size m [] (nS nN 0 0) [] (fun _=>False)) (i4.none _ _);have B:=UD (Chg s m []) a;clear a)
     |(go_at_call 7;refine(ae.o _ _ _ v J.o).mono ?_;rintro e s ⟨F4,bs,rfl,a,c,n,p,q⟩;have bG:=UD (vm v.heap.size s.heap.size s F4 bs t1) (vm.of a c p q);have u:=UD (Chg v s []) n;clear a c n p q)
     |(go_at_call 7;refine(ae.o _ _ _ v J.o).mono ?_;rintro e s ⟨bW,y4,rfl,a⟩;have u:=UD (Chg v s []) a;clear a)
     |(go_at_call 6;refine bx.o.mono ?_;rintro e v ⟨s3,x3,G3,rfl,ak,L⟩;obtain⟨la,lc,rfl,_⟩:=ak.row.form;have bb:=UD (i4 w2.heap.size v.heap.size v r (nS la r.length lc) x3 G3) (i4.of ak);have aU:=UD (Chg w2 v []) L;have J:=UD (vP t r tb la lc v) (k.o.with ak L aw.o);clear ak L))
   go_region_held3(fun _=>True) (trivial) (first
     |(go_at_call 11;refine((bD.o.kept za).eq (bK.o.kept za) ag.o).mono ?_;rintro e W ⟨rfl,a⟩;have R:=UD (Chg ao W []) (ct cR a);clear a))
   go_wp2_with(first
     |(go_at_call 7;refine(ae.o _ _ _ W (k.o.kept (ab.o.trans R.o))).mono ?_;rintro e aP ⟨aS,bq,rfl,a,c,n,p,q⟩;have be:=UD (vm W.heap.size aP.heap.size aP aS bq t1) (vm.of a c p q);have a6:=UD (Chg W aP []) n;clear a c n p q)
     |(go_at_call 7;refine(ae.o _ _ _ W (k.o.kept (ab.o.trans R.o))).mono ?_;rintro e z ⟨bV,b2,rfl,a⟩;have S:=UD (Chg ao z []) (R.o.trans a);have x:=UD (Chg w2 z []) (ab.o.trans S.o);(try have D:=hZ (bc.o.kept S.o));clear a))
   first
    |go_quiet(fail)
    |go_region_held3(fun _=>True) (trivial) (first
     |(go_at_call 13;have aK:=bI.o.kept (R.o.trans a6.o);refine(OL F4 aS bs bq t1 _ (aK.kept za).at_ (be.o.kept za).at_ (aK.kept za).below (be.o.kept za).below bz.o).mono ?_;rintro e z ⟨rfl,a⟩;have S:=UD (Chg ao z []) ((R.o.trans a6.o).trans (ct cR a));clear aK;have x:=UD (Chg w2 z []) (ab.o.trans S.o);(try have D:=hZ (bc.o.kept S.o));clear a))
   all_goals
    go_wp2_with(first
     |(go_at_call 11;refine((a9.o.kept aA.o).eq (bM.o.kept aA.o) ax.o).mono ?_;rintro e bv ⟨rfl,a⟩;have aV:=UD (Chg w2 bv []) ((ad.o.trans aA.o).trans a);clear a)
     |(go_at_call 13;refine(OL aT F6 br an t2 ap bf.o.at_ (bd.o.kept az.o).at_ bf.o.below (bd.o.kept az.o).below bA.o).mono ?_;rintro e bO ⟨rfl,a⟩;have aA:=UD (Chg N bO []) (az.o.trans a);clear a)
     |(go_at_call 9;obtain⟨v0,bn⟩:=a9.o.at_;refine(bB.o v0 aD aE aR ar N (k.o.kept ad.o).laid (k.o.kept ad.o).big (k.o.kept ad.o).words bn).mono ?_;rintro e ap ⟨aT,br,rfl,a,c,n,p,q⟩;have bf:=UD (vm N.heap.size ap.heap.size ap aT br t2) (vm.of a c p q);have az:=UD (Chg N ap []) n;clear a c n p q bn)
     |(go_at_call 10;refine(vK _ _ bw bu ((ba.o.kept ai.o).ok ax.o)).mono ?_;rintro e N ⟨rfl,f⟩;have g:=ba.o.new;have ad:=UD (Chg w2 N []) (f.fresh ((((x.o.trans y.o).trans ah.o).trans ai.o)) (fun b d=>by have:=g b d;have:=x.o.size;have:=y.o.size;omega));have a9:=UD (i4 z.heap.size M.heap.size N rs (nS aD rs.length aE) aR ar) ((a7.o.kept (ah.o.trans ai.o)).keptF f (fun b d=> .inr (g b d).1));have bM:=hZ (bL.o.keptF f (fun b d=> .inl (g b d).2));have bd:=hZ ((D.o.kept ((y.o.trans ah.o).trans ai.o)).keptF f (fun b d=> .inr (by have:=g b d;have:=D.o.lt;have:=y.o.size;omega)));clear f g)
     |(go_at_call 6;refine((a7.o.kept ah.o).cp ax.o).mono ?_;rintro e bu ⟨bS,b1,bP,rfl,a,c⟩;obtain⟨xa,xc,rfl,_⟩:=a.row.form;have bL:=hZ (i4.of a);have ai:=UD (Chg bt bu []) c;clear a c)
     |(go_at_call 14;refine(a1.o an F6 M (k.o.kept (x.o.trans y.o)).laid (k.o.kept (x.o.trans y.o)).words (D.o.kept y.o).at_ (D.o.kept y.o).below).mono ?_;rintro e bt ⟨bQ,bR,b0,bw,rfl,a,c⟩;have ba:=hZ (i4.of a);have ah:=UD (Chg M bt []) c;clear a c)
     |(go_at_call 14;refine(a1.o an F6 _ ((k.o.kept x.o).kept za).laid ((k.o.kept x.o).kept za).words (D.o.kept za).at_ (D.o.kept za).below).mono ?_;rintro e M ⟨aD,aE,aR,ar,rfl,a,c⟩;have a7:=UD (i4 z.heap.size M.heap.size M rs (nS aD rs.length aE) aR ar) ⟨⟨_,a⟩,a.new,Q8 _⟩;have y:=UD (Chg z M []) (ct cR c);clear a c)
     |(go_at_call 5;refine(a3.o bv aV.o).mono ?_;rintro e aQ ⟨rfl,a⟩;have aW:=UD (Chg w2 aQ []) (aV.o.trans a);clear a)
     |(go_at_call 5;refine(a3.o _ (x.o.trans za)).mono ?_;rintro e aQ ⟨rfl,a⟩;have aW:=UD (Chg w2 aQ []) (x.o.trans (ct cR a));clear a))
    go_ret;exact⟨rfl,j.o.trans aW.o⟩
end
section
open _root_.Go.Proofs.Tryz
open Go Go.RowKit Go.ChangeShapes Go.WideShapes Go.ChangeAt
theorem vN(H:Type)(enc:Ti×Vl->H)(W:Wl)(base:Nat)(args:Array Vl)(ds B:List (DataW H))(P:List MemPlace)(m:∀(j:Nat) t v,f3.params[j]? =nM t->args[j]? =nM v->Vl.okWide prog W .any base t v)(E:DataW.Whole enc prog f3.params.toList Rows.patchFreshSpec.vars false W args.toList ds B P)(ag:Rows.uptoSmall H (ds++B)=true)(S:laidMetH prog iQ W)(Z:W.ShapedOpen prog):
  Cl prog 3 args W fun e r=>∃v,e= nR v/\Rows.patchFreshSpec.post enc prog f3 false true false false W args v r:=by
 have F:=E;obtain⟨p,q,C,D,rfl,am,ao⟩:=E;have k:DataW.TrodAll enc prog W 0 (fun _=>true) true f3.params.toList args.toList ds p:=C;rw[params3]at k m;obtain⟨L,aq,w,ai,n,q0,ak,rfl,rfl,c,J⟩:=trodAll_cons k;obtain⟨M,ar,y,aj,o,q1,rfl,rfl,rfl,d,K⟩:=trodAll_cons J;obtain⟨rfl,rfl,rfl⟩:=trodAll_nil K;obtain rfl:args=#[L,M]:=by cases args;simp_all
 obtain⟨rfl,rfl⟩:=trodVars_none D;clear C k D J K;obtain⟨N,n0,Q,rfl⟩:=okWide_slice underlying22 (m 0 22 L rfl rfl);obtain⟨O,n1,c1,rfl⟩:=okWide_slice underlying23 (m 1 23 M rfl rfl);have aa:=c;have ab:=d;obtain⟨u0,c⟩:=c;obtain⟨u1,d⟩:=d
 have al:Rows.uptoBulk w+(Rows.uptoBulk y+0)<=1048576:=by
  have:=of_decide_eq_true ag;simpa only[Qo,List.nil_append,Rows.uptoBulkAll]using this
 obtain⟨s,z,l,xs,ae,X,Y,hw,an⟩:=MA c (show Rows.uptoBulk w<=1048576 by omega);obtain⟨u,A,pa,ys,af,U,V⟩:=Rt d (show Rows.uptoBulk y<=1048576 by omega);have g:[Vl.slice N n0 Q]=[Vl.slice s l.length z]:=ae;have i:[Vl.slice O n1 c1]=[Vl.slice u pa.length A]:=af;rw[List.cons.injEq]at g i;rw[g.1,i.1];obtain⟨T,ad,R⟩:=jv S Z;refine(wh l pa (nS s l.length z) (nS u pa.length A) xs ys W T ad R ⟨X,Y,hw,Zj⟩ U V).mono fun e r ⟨he,f⟩=> ?_;subst he;rw[<-g.1,<-i.1]
 refine⟨_,rfl,Pq (pa:=n++(o++[])) (pv:=[]) F (fun _ _ _=>trodAll_cons_mk (shut_bool underlying4 _) trodAll_mk0) (fun sp ah=> ?_) (fun _ _=>rfl) rfl
  (f.keptBut _) (fun b ap hb=>f.frozen hb Zh) (ok_one Yb rfl (okWide_bool_mk underlying4 _))⟩
 have G:∀x,x∈n\/x∈o->x.block<W.heap.size:=fun x a=>F.lt x (by rcases a with h|h<;>simp[h]);have I:∀x,x∈n\/x∈o->sp x.block=true:=fun x a=>ah x (by rcases a with h|h<;>simp[h])
 exact trodAll_cons_mk (WideElems.Trod_stays Me Yb (of_decide_eq_true Yb) aa (fun x a=>f.sameAt (G x (.inl a))) (fun x a=>I x (.inl a)))
  (trodAll_cons_mk (WideElems.Trod_stays Me Yb (of_decide_eq_true Yb) ab (fun x a=>f.sameAt (G x (.inr a))) (fun x a=>I x (.inr a))) trodAll_mk0)
def wu:Array Vl:=#[nS nN 0 0,nS nN 0 0]
theorem vV(os:Os){H:Type}(enc:Ti×Vl->H):∃a,DataW.whole enc prog ((ie os).forCall (fun _ _=>0) ⟨#[],wu,[]⟩).memory f3.params.toList Rows.patchFreshSpec.vars false wu.toList 8=nM ([.nil,.nil],[],a):=
 ⟨[],Yb⟩
theorem vR(os:Os)(j:os.Started)(H:Type)(enc:Ti×Vl->H)(F:Stop.Interp):
  ReturnsInHanded {} checked os 3 .any ((Rows.OpenSpec.upto Rows.patchFreshSpec).preRow enc prog f3 Rows.patchFreshUptoRow.domain false Rows.patchFreshUptoRow.laid) (((Rows.OpenSpec.upto Rows.patchFreshSpec).at F).post enc prog f3 false true false false):=by
 obtain⟨l,i⟩:=vV os enc
 refine returnsInHanded_of_row (C:=checked) (s:=Rows.OpenSpec.upto Rows.patchFreshSpec) Xm j Yb func3
  (witness_row_atRef (enc:=enc) (C:=checked) false (ie os) wu rfl Yb Yb Yb
   (OpenSpec.preRow_of_cond 8 i Yb (fun k g=>by cases g;kernel_rfl) Yb (jj os _))) ?_
 intro W base args ds b a h e _ f _ c d _;exact vN H enc W base args ds b a h e (f _ rfl) c d
theorem wl{a b:Bool}(h:a=true)(k:b=true):(a&&b)=true:=by rw[h,k];rfl
theorem vM:prog.funcNamed Rows.patchFreshUptoRow.func=nM 3:=Yb
theorem vT:joinedFacts prog 3 f3 (Rows.OpenSpec.upto Rows.patchFreshSpec).bare Rows.patchFreshUptoRow=true:=by
 unfold joinedFacts;iterate 31 refine wl ?_ ?_
 all_goals as_aux_lemma=>kernel_rfl
theorem vX:f3.isInstance prog Rows.patchFreshUptoRow.origin Rows.patchFreshUptoRow.targs:=of_decide_eq_true Yb
theorem vZ:f3.isWrapper prog Rows.patchFreshUptoRow.wrapper Rows.patchFreshUptoRow.mainSum:=by
 unfold Func.isWrapper;first|(rw[Qr (by decide+kernel)];kernel_rfl)|(rw[Qs (by decide+kernel)];exact⟨rfl,rfl⟩)
theorem vY:Rows.PatchFreshUptoSaid:=
 OpenClaim.holds_of_cond 3 f3 rfl rfl rfl rfl rfl rfl rfl ⟨rfl,rfl,rfl,rfl,rfl⟩ rfl rfl rfl rfl rfl vM func3 vT vX vZ
  (fun os a H enc _ F=>by rw[OpenClaim.pre_eq_preRow];exact vR os a H enc F)
theorem vU(f:FuncId)(a:Func)(c:Tryz.pinned.checked.prog.funcNamed Rows.patchFreshUptoRow.func=nM f)(d:Tryz.pinned.checked.prog.funcs[f]? =nM a):
  true=Tryz.pinned.checked.prog.looks []/\∀(j:Nat) t,a.params[j]? =nM t->Tryz.pinned.checked.prog.wantsStandIn t=false:=by
 obtain rfl:f=3:=Q5 (vM.symm.trans c)|>.symm
 obtain rfl:a=f3:=(Q5 (func3.symm.trans d)).symm;refine⟨Yb,fun j t b=> ?_⟩;rw[params3]at b
 have e:t=22\/t=23:=by
  have:=Array.mem_of_getElem? b;simp at this;rcases this with h|h<;>simp[h]
 rcases e with rfl|rfl
 .exact(show prog.wantsStandIn 22=false by kernel_rfl)
 .exact(show prog.wantsStandIn 23=false by kernel_rfl)
theorem patchFresh_card:Rows.PatchFreshUptoCardSaid:=
 Claim7.holds_tied_plain_at .later [] _ _ _ _ vY (fun _ h=>by cases h) Yb (fun _ h=>by cases h) patchFreshUpto_row_tie rfl ⟨rfl,rfl⟩ Yb rfl vU Yb
end
#print axioms patchFresh_card
end Go.Proofs.YtamgbmcchhmojaaGreatDoor

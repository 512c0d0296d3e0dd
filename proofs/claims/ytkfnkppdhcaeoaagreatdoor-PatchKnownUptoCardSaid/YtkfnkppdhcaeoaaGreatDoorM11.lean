/- Part 11 of the proof of coreBase. -/
import Derived.Test.YtkfnkppdhcaeoaaGreatDoorM10
set_option maxRecDepth 100000
set_option maxHeartbeats 32000000
set_option linter.all false
namespace Go.Proofs.YtkfnkppdhcaeoaaGreatDoor
open Go renaming Calls->Cl,TypeId->Ti,Value->Vl,World->Wl
open Go.Value renaming agg->nA,int->nI,slice->nS,string->nG
open Go.IntKind renaming i64->nX
open Go.Ending renaming returned->nR
open Go.Obj renaming cells->nC
open Option renaming none->nN,some->nM
section
open _root_.Go.Proofs.Tryz
open Go Go.RowKit Tree
theorem Cm(w:Wl)(cs:List Vl)(T:Ti):∀j v,cs[j]? =nM v->(w.alloc (nC cs.toArray T)).cell? ⟨w.heap.size,j,nN⟩=nM v:=fun j v a=>by
 rw[(Ac.new w cs T).cell,a]
def Fz(l:List SA)(w:Wl)(e:Ending)(w':Wl):Prop:=
 (∃v,e= nR v/\As w' v 7 l.length (CQ (Hl Prod.fst l)))/\Chg w w' []
theorem RR(N:Nat):∀(l:List SA) (sl:Vl) (w:Wl),l.length<=N->As w sl 7 l.length (CQ l)->(∀p∈l,Fy p)->(l.map Prod.fst).Nodup->l.length<=4294967296->
  Cl prog 140 #[sl] w (Fz l w):=by
 induction N using Nat.strongRecOn with
 |_ N ih=> ?_
 intro ks sl w hN hR hk bm hl;obtain⟨a,c,rfl,bD,_⟩:=hR.form;have HR:=hZ hR;have V:=hZ hk;have a7:=hZ ih;have aV:=hZ bm;clear hR hk ih bm;by_cases d:ks.length<2
 .have bn:Hl Prod.fst ks=ks:=by
   match ks,d with
   |[],_=>exact Uw _
   |[x],_=>exact Ux _ x
  have HS:=hZ bn;clear bn;have bI:(ks.length:Int)<2:=Zj
  go_enter func140,ntmps140
  go_wp2_with fail
  go_ret
  exact⟨⟨_,rfl,by rw[HS.o];exact HR.o⟩,Chg.refl _ _⟩
 .obtain⟨b,o,rfl,_⟩:=HR.o.base Zj ZM
  have bt:(ks.length:Int)/2=((ks.length/2:Nat):Int):=Zj
  obtain⟨h,hh⟩:=Ue (ks.length/2)
  rw[<-hh]at bt;have bG:h<ks.length:=Zj
  have bH:1<=h:=Zj
  have a1:=HR.o.head h Zj;have aN:=HR.o.tail h (ks.length-h) (c-h) Zj Zj;rw[Va V.o]at a1;rw[Ok V.o]at aN;simp only[Option.map_some,FB]at aN;have aP:(ks.take h).length=h:=by rw[Ql];omega
  have aS:(ks.drop h).length=ks.length-h:=by rw[Qm]
  have a8:Hid (∀w',Chg w w' []->Cl prog 140 #[nS (nM ⟨b,o,nN⟩) h c] w' (Fz (ks.take h) w')):=fun w' hc=>
   a7.o h Zj (ks.take h) _ w' Zj (by rw[aP];exact a1.kept hc) (fun s d=>V.o s (List.mem_of_mem_take d)) (by rw[List.map_take];exact aV.o.sublist (List.take_sublist _ _)) Zj
  have a9:Hid (∀w',Chg w w' []->Cl prog 140 #[nS (nM ⟨b,o+h*7,nN⟩) (ks.length-h) (c-h)] w' (Fz (ks.drop h) w')):=fun w' hc=>
   a7.o (ks.length-h) Zj (ks.drop h) _ w' Zj (by rw[aS];exact aN.kept hc) (fun s d=>V.o s (List.mem_of_mem_drop d)) (by rw[List.map_drop];exact aV.o.sublist (List.drop_sublist _ _)) Zj
  have bh:∀a∈ks.take h++ks.drop h,∀b∈ks.take h++ks.drop h,a.1=b.1->a=b:=by
   rw[List.take_append_drop];intro a ha b hb e;obtain⟨i,hi,rfl⟩:=List.mem_iff_getElem.1 ha;obtain⟨j,hj,rfl⟩:=List.mem_iff_getElem.1 hb;have:=(List.getElem?_inj (l:=ks.map Prod.fst) (j:=j) (by simpa using hi) aV.o).1 (by simp[hi,hj,e]);subst this;rfl
  have HS:Hid (List.merge (Hl Prod.fst (ks.take h)) (Hl Prod.fst (ks.drop h)) (Hp Prod.fst)=Hl Prod.fst ks):=by unfold Hid;rw[OG _ _ _ bh,List.take_append_drop]
  have aA:Hid ((Hl Prod.fst (ks.take h)).length=h/\(Hl Prod.fst (ks.drop h)).length=ks.length-h):=by unfold Hid;rw[Jt,Jt,aP,aS];exact⟨rfl,rfl⟩
  have bb:Hid (∀s∈Hl Prod.fst (ks.take h),Fy s):=fun s d=>V.o s (List.mem_of_mem_take ((Ka Prod.fst).1 d))
  have bc:Hid (∀s∈Hl Prod.fst (ks.drop h),Fy s):=fun s d=>V.o s (List.mem_of_mem_drop ((Ka Prod.fst).1 d))
  have ba:=hZ aP;have bd:=hZ aS;clear a1 aN aP aS hh d bh;have q1:h<=c:=Zj
  have q2:(h:Int)<=(c:Int):=Zj
  have q3:¬c=h:=Zj
  have q4:h<c:=Zj
  have z1:IntKind.i64.wrap (h:Int)=(h:Int):=IntWalk.i64_in _ Zj;have z2:(0:Int)<=(h:Int):=Zj
  have q5:(h:Int)<=(ks.length:Int):=Zj
  go_enter func140,ntmps140
  go_upto_region 3 with(fail)
  go_cut [3,4]from 10 to 21 (fun s3 s4 wx=>As wx s3 7 h (CQ (Hl Prod.fst (ks.take h)))/\As wx s4 7 (ks.length-h) (CQ (Hl Prod.fst (ks.drop h)))/\Chg w wx [])
  case first=>
   go_region_with(first
    |(go_at_call_of 140 (Vl.slice (nM ⟨b,o,nN⟩) h c);refine(a8.o _ (by first|exact(Chg.refl w []).drew|exact((Chg.refl w []).drew).trans aO)).mono ?_;rintro e R ⟨⟨v1,rfl,aZ⟩,O⟩;rw[ba.o]at aZ)
    |(go_at_call 140;refine(a9.o _ (by first|exact(Chg.refl w []).drew|exact((Chg.refl w []).drew).trans O)).mono ?_;rintro e w2 ⟨⟨v2,rfl,a0⟩,aO⟩;rw[bd.o]at a0))
   all_goals(go_wp2_with fail;go_meet)
   all_goals first
    |exact⟨aZ.kept aO,a0,(((Chg.refl w []).drew).trans O).trans aO⟩
    |exact⟨aZ,a0.kept O,(((Chg.refl w []).drew).trans aO).trans O⟩
  case rest=>
   obtain⟨aD,aE,k⟩:=hcut;have HG:=hZ k;obtain⟨S,bo⟩:=Ue wc
   rw[<-bo]at HG aD aE|-;obtain⟨A,hA⟩:=Ue (Hl Prod.fst (ks.take h))
   obtain⟨B,hB⟩:=Ue (Hl Prod.fst (ks.drop h))
   rw[<-hA]at aD HS bb aA;rw[<-hB]at aE HS bc aA;clear k bo hA hB a8 a9 ba bd;obtain⟨a3,c3,rfl,bE,_⟩:=aD.form;obtain⟨a4,c4,rfl,bF,_⟩:=aE.form;have bq:=hZ aD;have br:=hZ aE;clear aD aE;go_wp2_with fail
   go_loopw [3,4,5] (fun v3 v4 v5 wr=>∃(X Y f:List SA),As S v3 7 X.length (CQ X)/\As S v4 7 Y.length (CQ Y)/\Ba wr v5 255 7 f.length (CQ f)/\Chg S wr []/\(∀g,v5.ownBlock=nM g->S.heap.size<=g)/\
     f++List.merge X Y (Hp Prod.fst)=Hl Prod.fst ks/\X.length+Y.length+f.length=ks.length/\(∀s∈X,Fy s)/\(∀s∈Y,Fy s)) (fun v3 v4 _ _=>LD v3+LD v4)
   case atStart=>exact⟨A,B,[],by rw[aA.o.1];exact bq.o,by rw[aA.o.2];exact br.o,Ba.nil _ _ _,Chg.refl _ _,fun g k=>(by cases k),HS.o,by rw[aA.o.1,aA.o.2];simp;omega,bb.o,bc.o⟩
   case round=>
    obtain⟨C,rfl⟩:=Ue wr
    obtain⟨X,Y,f,hX,hY,hO,k,ho,B,Q,bi,bj⟩:=hrel;obtain⟨a5,c5,rfl,aF,_⟩:=hX.form;obtain⟨a6,c6,rfl,aG,_⟩:=hY.form;have HX:=hZ hX;have HY:=hZ hY;have HO:=hZ hO;have t:=hZ k;have P:=hZ ho;have HM:=hZ B;have z:=hZ bi;have A:=hZ bj;clear hX hY hO k ho B bi bj
    match X,Y with
    |[],[]=>
     have bg:f=Hl Prod.fst ks:=by have:=HM.o;simpa using this
     have HF:=hZ bg;have bp:=UD (f.length=ks.length) (by simpa using Q);clear bg;go_wp2_with fail
     go_ret
     refine⟨⟨_,rfl, ?_⟩,HG.o.trans t.o⟩;have h1:=HO.o.rowC (D4 (fun p hp=>V.o p ((Ka Prod.fst).1 (HF.o▸hp))));rw[bp.o,HF.o]at h1;exact h1
    |[],y::F=>
     have Z:Hid (f++[y]++List.merge [] F (Hp Prod.fst)=Hl Prod.fst ks):=by unfold Hid;rw[<-HM.o,FP,FP];simp
     obtain⟨H,N,rfl,aI⟩:=HY.o.base Zh ZM;have az:Hid (C.rangeAt H N (CX y)):=fun j v n=>t.o.keeps (aI j v (by rw[Bm,List.getElem?_append_left (Qc.1 n).1];exact n))
     have aU:Hid ((prog.info? 255).map (·.size)=nM (CX y).length):=by unfold Hid;rw[(A.o y Zh).length];exact It
     obtain⟨kY,av,ae,ab,ax,an,ar,ap,ah,al,aj,eY⟩:=A.o y Zh;have aC:Hid (CX y=[nG y.1,nI nX av,.bool ae,nI .u64 ab,nG ax,nS an ar ap,nS ah al aj]):=by unfold Hid CX;rw[eY];rfl
     have aX:Hid ((CX y).toArray=#[nG y.1,nI nX av,.bool ae,nI .u64 ab,nG ax,nS an ar ap,nS ah al aj]):=by unfold Hid;rw[aC.o]
     have bv:C.cell? ⟨H,N,nN⟩=nM (nG y.1):=by have:=az.o 0 (nG y.1) rfl;rwa[Nat.add_zero]at this
     clear eY aI;simp only[List.length_nil,Qj]at Q aF aG|-;have bl:f.length<=4294967296:=Zj
     obtain⟨m,B⟩:=Ue (F.length+1)
     have aM:Hid (As S (nS (nM ⟨H,N,nN⟩) m c6) 7 m (CX y++CQ F)):=by rw[B,<-Bm];exact HY.o
     have aL:=hZ B;rw[<-B]at Q aG|-;have bw:((m:Int)==0)=false:=by rw[Qq];omega
     have bx:(0:Int)<(m:Int):=Zj
     have bz:m<=4294967297:=Zj
     have a2:0<m:=Zj
     have bC:decide (0<m)=true:=decide_eq_true a2;clear B
     rcases Decidable.em (c6=1)with af|af
     all_goals
      go_wp2_with fail
      go_quiet(fail)
      go_wp2_with(first
        |(refine wpList_load_mid rfl _ _ rfl H N ZN (CX y) _ (by exact az.o) underlying255 rfl aU.o ?_;rw[aX.o])
        |(at_builtin;go_loud(refine Bg rfl _ _ _ rfl 255 V6 7 104 ZM underlying253 Ic rfl u5 f.length (CQ f) ZN (by exact HO.o.kept (bs:=[]) (by exact cg cR) Zh) C.heap.size [nG y.1,nI nX av,.bool ae,nI .u64 ab,nG ax,nS an ar ap,nS ah al aj] ZN ZN (by exact Cm _ _ _) (by intro u L;simp only[Qh,List.not_mem_nil,or_false]at L;rcases L with rfl|rfl|rfl|rfl|rfl|rfl|rfl<;>rfl) Zj Zj ?_;intro g aY w3 r I J;rw[<-aC.o]at r;have W:=hZ r;have T:=hZ I;have U:=hZ J;clear r I J)))
      go_roundw
      case rel=>
       have z1:=t.o.size;have e1:=aL.o;refine⟨[],F,f++[y],HX.o,(by first|(refine aM.o.nextZ _ ?_ ?_ ?_ ?_<;>(first|exact(A.o y Zh).length|omega))|(refine Ei ?_ ?_ ?_<;>(first|omega|(rw[D4 (fun s d=>A.o s (by simp[d]))];omega)))),(by rw[Qk,EM,Bm,show CQ []=[]from rfl,List.append_nil];exact W.o),Chg.own (sv:= nS nN 0 0) (by exact cg t.o) T.o (fun g k=>by cases k) (fun g k=> .inr (P.o g k)),fun g' K=> ?_,by rw[<-Z.o],by rw[Qk];simp only[List.length_nil,Qj];omega,z.o,(fun s d=>A.o s (by simp[d]))⟩;simp[Vl.ownBlock]at K;subst K
       rcases U.o with h|h
       .exact P.o _ h
       .simp at h;omega
      case measure=>simp[LD];omega
    |x::E,[]=>
     have Z:Hid (f++[x]++List.merge E [] (Hp Prod.fst)=Hl Prod.fst ks):=by unfold Hid;rw[<-HM.o,FQ,FQ];simp
     obtain⟨G,M,rfl,aH⟩:=HX.o.base Zh ZM;have ay:Hid (C.rangeAt G M (CX x)):=fun j v n=>t.o.keeps (aH j v (by rw[Bm,List.getElem?_append_left (Qc.1 n).1];exact n))
     have aT:Hid ((prog.info? 255).map (·.size)=nM (CX x).length):=by unfold Hid;rw[(z.o x Zh).length];exact It
     obtain⟨kX,au,ad,aa,aw,am,aq,ao,ag,ak,ai,eX⟩:=z.o x Zh;have aB:Hid (CX x=[nG x.1,nI nX au,.bool ad,nI .u64 aa,nG aw,nS am aq ao,nS ag ak ai]):=by unfold Hid CX;rw[eX];rfl
     have aW:Hid ((CX x).toArray=#[nG x.1,nI nX au,.bool ad,nI .u64 aa,nG aw,nS am aq ao,nS ag ak ai]):=by unfold Hid;rw[aB.o]
     have bu:C.cell? ⟨G,M,nN⟩=nM (nG x.1):=by have:=ay.o 0 (nG x.1) rfl;rwa[Nat.add_zero]at this
     clear eX aH;simp only[List.length_nil,Qj]at Q aF aG|-;have bl:f.length<=4294967296:=Zj
     obtain⟨m,B⟩:=Ue (E.length+1)
     have aK:Hid (As S (nS (nM ⟨G,M,nN⟩) m c5) 7 m (CX x++CQ E)):=by rw[B,<-Bm];exact HX.o
     have aJ:=hZ B;rw[<-B]at Q aF|-;have bw:((m:Int)==0)=false:=by rw[Qq];omega
     have bx:(0:Int)<(m:Int):=Zj
     have bz:m<=4294967297:=Zj
     have a2:0<m:=Zj
     have bC:decide (0<m)=true:=decide_eq_true a2;clear B
     rcases Decidable.em (c5=1)with af|af
     all_goals
      go_wp2_with fail
      go_quiet(fail)
      go_wp2_with(first
        |(refine wpList_load_mid rfl _ _ rfl G M ZN (CX x) _ (by exact ay.o) underlying255 rfl aT.o ?_;rw[aW.o])
        |(at_builtin;go_loud(refine Bg rfl _ _ _ rfl 255 V6 7 104 ZM underlying253 Ic rfl u5 f.length (CQ f) ZN (by exact HO.o.kept (bs:=[]) (by exact cg cR) Zh) C.heap.size [nG x.1,nI nX au,.bool ad,nI .u64 aa,nG aw,nS am aq ao,nS ag ak ai] ZN ZN (by exact Cm _ _ _) (by intro u L;simp only[Qh,List.not_mem_nil,or_false]at L;rcases L with rfl|rfl|rfl|rfl|rfl|rfl|rfl<;>rfl) Zj Zj ?_;intro g aY w3 r I J;rw[<-aB.o]at r;have W:=hZ r;have T:=hZ I;have U:=hZ J;clear r I J)))
      go_roundw
      case rel=>
       have z1:=t.o.size;have e1:=aJ.o;refine⟨E,[],f++[x],(by first|(refine aK.o.nextZ _ ?_ ?_ ?_ ?_<;>(first|exact(z.o x Zh).length|omega))|(refine Ei ?_ ?_ ?_<;>(first|omega|(rw[D4 (fun s d=>z.o s (by simp[d]))];omega)))),HY.o,(by rw[Qk,EM,Bm,show CQ []=[]from rfl,List.append_nil];exact W.o),Chg.own (sv:= nS nN 0 0) (by exact cg t.o) T.o (fun g k=>by cases k) (fun g k=> .inr (P.o g k)),fun g' K=> ?_,by rw[<-Z.o],by rw[Qk];simp only[List.length_nil,Qj];omega,(fun s d=>z.o s (by simp[d])),A.o⟩;simp[Vl.ownBlock]at K;subst K
       rcases U.o with h|h
       .exact P.o _ h
       .simp at h;omega
      case measure=>simp[LD];omega
    |x::E,y::F=>
     obtain⟨G,M,rfl,aH⟩:=HX.o.base Zh ZM;have ay:Hid (C.rangeAt G M (CX x)):=fun j v n=>t.o.keeps (aH j v (by rw[Bm,List.getElem?_append_left (Qc.1 n).1];exact n))
     have aT:Hid ((prog.info? 255).map (·.size)=nM (CX x).length):=by unfold Hid;rw[(z.o x Zh).length];exact It
     obtain⟨kX,au,ad,aa,aw,am,aq,ao,ag,ak,ai,eX⟩:=z.o x Zh;have aB:Hid (CX x=[nG x.1,nI nX au,.bool ad,nI .u64 aa,nG aw,nS am aq ao,nS ag ak ai]):=by unfold Hid CX;rw[eX];rfl
     have aW:Hid ((CX x).toArray=#[nG x.1,nI nX au,.bool ad,nI .u64 aa,nG aw,nS am aq ao,nS ag ak ai]):=by unfold Hid;rw[aB.o]
     have bu:C.cell? ⟨G,M,nN⟩=nM (nG x.1):=by have:=ay.o 0 (nG x.1) rfl;rwa[Nat.add_zero]at this
     clear eX aH;obtain⟨H,N,rfl,aI⟩:=HY.o.base Zh ZM;have az:Hid (C.rangeAt H N (CX y)):=fun j v n=>t.o.keeps (aI j v (by rw[Bm,List.getElem?_append_left (Qc.1 n).1];exact n))
     have aU:Hid ((prog.info? 255).map (·.size)=nM (CX y).length):=by unfold Hid;rw[(A.o y Zh).length];exact It
     obtain⟨kY,av,ae,ab,ax,an,ar,ap,ah,al,aj,eY⟩:=A.o y Zh;have aC:Hid (CX y=[nG y.1,nI nX av,.bool ae,nI .u64 ab,nG ax,nS an ar ap,nS ah al aj]):=by unfold Hid CX;rw[eY];rfl
     have aX:Hid ((CX y).toArray=#[nG y.1,nI nX av,.bool ae,nI .u64 ab,nG ax,nS an ar ap,nS ah al aj]):=by unfold Hid;rw[aC.o]
     have bv:C.cell? ⟨H,N,nN⟩=nM (nG y.1):=by have:=az.o 0 (nG y.1) rfl;rwa[Nat.add_zero]at this
     clear eY aI;simp only[List.length_nil,Qj]at Q aF aG|-;have bl:f.length<=4294967296:=Zj
     obtain⟨m1,aQ⟩:=Ue (E.length+1)
     have aK:Hid (As S (nS (nM ⟨G,M,nN⟩) m1 c5) 7 m1 (CX x++CQ E)):=by rw[aQ,<-Bm];exact HX.o
     have aJ:=hZ aQ;rw[<-aQ]at Q aF|-;have bJ:((m1:Int)==0)=false:=by rw[Qq];omega
     have bL:(0:Int)<(m1:Int):=Zj
     have bN:m1<=4294967297:=Zj
     have bA:0<m1:=Zj
     have bP:decide (0<m1)=true:=decide_eq_true bA;clear aQ;obtain⟨m2,aR⟩:=Ue (F.length+1)
     have aM:Hid (As S (nS (nM ⟨H,N,nN⟩) m2 c6) 7 m2 (CX y++CQ F)):=by rw[aR,<-Bm];exact HY.o
     have aL:=hZ aR;rw[<-aR]at Q aG|-;have bK:((m2:Int)==0)=false:=by rw[Qq];omega
     have bM:(0:Int)<(m2:Int):=Zj
     have bO:m2<=4294967297:=Zj
     have bB:0<m2:=Zj
     have bQ:decide (0<m2)=true:=decide_eq_true bB;clear aR;have HC:=hZ fun w=>MN x.1 y.1 w kX.2 kY.2 kX.1 kY.1
     clear kX kY;obtain⟨q,hq⟩:=Ue (Utf.BK x.1 y.1)
     rw[<-hq]at HC;by_cases bk:q<=0
     .have Z:Hid (f++[x]++List.merge E (y::F) (Hp Prod.fst)=Hl Prod.fst ks):=by unfold Hid;rw[<-HM.o,Mj Prod.fst (by rw[<-hq];exact bk)];simp
      clear hq
      rcases Decidable.em (c5=1)with af|af
      all_goals
       go_wp2_with fail
       go_still_tail 16,Yb
       go_wp2_with(first
        |(go_at_call 175;refine(HC.o _).mono ?_;rintro e R ⟨rfl,O⟩;have D:=hZ ((Chg.refl C []).drew.trans O);have be:Hid (R.rangeAt G M (CX x)):=(fun j v n=>D.o.keeps (ay.o j v n));have bf:Hid (R.rangeAt H N (CX y)):=(fun j v n=>D.o.keeps (az.o j v n));clear O)
        |(refine wpList_load_mid rfl _ _ rfl G M ZN (CX x) _ (by exact be.o) underlying255 rfl aT.o ?_;rw[aW.o])
        |(at_builtin;go_loud(refine Bg rfl _ _ _ rfl 255 V6 7 104 ZM underlying253 Ic rfl u5 f.length (CQ f) ZN (by exact(HO.o.kept D.o).kept (bs:=[]) (by exact cg cR) Zh) R.heap.size [nG x.1,nI nX au,.bool ad,nI .u64 aa,nG aw,nS am aq ao,nS ag ak ai] ZN ZN (by exact Cm _ _ _) (by intro u L;simp only[Qh,List.not_mem_nil,or_false]at L;rcases L with rfl|rfl|rfl|rfl|rfl|rfl|rfl<;>rfl) Zj Zj ?_;intro g aY w3 r I J;rw[<-aB.o]at r;have W:=hZ r;have T:=hZ I;have U:=hZ J;clear r I J)))
       go_roundw
       case rel=>
        have z1:=t.o.size;have z2:=D.o.size;have e1:=aJ.o;have e2:=aL.o;refine⟨E,(y::F),f++[x],(by first|(refine aK.o.nextZ _ ?_ ?_ ?_ ?_<;>(first|exact(z.o x Zh).length|omega))|(refine Ei ?_ ?_ ?_<;>(first|omega|(rw[D4 (fun s d=>z.o s (by simp[d]))];omega)))),(by rw[Qj,<-e2,Bm];exact aM.o),(by rw[Qk,EM,Bm,show CQ []=[]from rfl,List.append_nil];exact W.o),Chg.own (sv:= nS nN 0 0) (by exact cg (t.o.trans D.o)) T.o (fun g k=>by cases k) (fun g k=> .inr (P.o g k)),fun g' K=> ?_,by rw[<-Z.o],by rw[Qk];simp only[List.length_nil,Qj];omega,(fun s d=>z.o s (by simp[d])),A.o⟩;simp[Vl.ownBlock]at K;subst K
        rcases U.o with h|h
        .exact P.o _ h
        .simp at h;omega
       case measure=>simp[LD];omega
     .have Z:Hid (f++[y]++List.merge (x::E) F (Hp Prod.fst)=Hl Prod.fst ks):=by unfold Hid;rw[<-HM.o,K9 Prod.fst (by rw[<-hq];exact bk)];simp
      clear hq
      rcases Decidable.em (c6=1)with af|af
      all_goals
       go_wp2_with fail
       go_still_tail 16,Yb
       go_wp2_with(first
        |(go_at_call 175;refine(HC.o _).mono ?_;rintro e R ⟨rfl,O⟩;have D:=hZ ((Chg.refl C []).drew.trans O);have be:Hid (R.rangeAt G M (CX x)):=(fun j v n=>D.o.keeps (ay.o j v n));have bf:Hid (R.rangeAt H N (CX y)):=(fun j v n=>D.o.keeps (az.o j v n));clear O)
        |(refine wpList_load_mid rfl _ _ rfl H N ZN (CX y) _ (by exact bf.o) underlying255 rfl aU.o ?_;rw[aX.o])
        |(at_builtin;go_loud(refine Bg rfl _ _ _ rfl 255 V6 7 104 ZM underlying253 Ic rfl u5 f.length (CQ f) ZN (by exact(HO.o.kept D.o).kept (bs:=[]) (by exact cg cR) Zh) R.heap.size [nG y.1,nI nX av,.bool ae,nI .u64 ab,nG ax,nS an ar ap,nS ah al aj] ZN ZN (by exact Cm _ _ _) (by intro u L;simp only[Qh,List.not_mem_nil,or_false]at L;rcases L with rfl|rfl|rfl|rfl|rfl|rfl|rfl<;>rfl) Zj Zj ?_;intro g aY w3 r I J;rw[<-aC.o]at r;have W:=hZ r;have T:=hZ I;have U:=hZ J;clear r I J)))
       go_roundw
       case rel=>
        have z1:=t.o.size;have z2:=D.o.size;have e1:=aJ.o;have e2:=aL.o;refine⟨(x::E),F,f++[y],(by rw[Qj,<-e1,Bm];exact aK.o),(by first|(refine aM.o.nextZ _ ?_ ?_ ?_ ?_<;>(first|exact(A.o y Zh).length|omega))|(refine Ei ?_ ?_ ?_<;>(first|omega|(rw[D4 (fun s d=>A.o s (by simp[d]))];omega)))),(by rw[Qk,EM,Bm,show CQ []=[]from rfl,List.append_nil];exact W.o),Chg.own (sv:= nS nN 0 0) (by exact cg (t.o.trans D.o)) T.o (fun g k=>by cases k) (fun g k=> .inr (P.o g k)),fun g' K=> ?_,by rw[<-Z.o],by rw[Qk];simp only[List.length_nil,Qj];omega,z.o,(fun s d=>A.o s (by simp[d]))⟩;simp[Vl.ownBlock]at K;subst K
        rcases U.o with h|h
        .exact P.o _ h
        .simp at h;omega
       case measure=>simp[LD];omega
def PR(F:Nat->Prop)(ks:List BY)(l:List Tr)(w:Wl)(e:Ending)(w':Wl):Prop:=
 ∃(a:Nat->Prop) (cs:List Vl),e= nR (nA cs.toArray)/\(∀k,F k->a k)/\(∀k,a k->k<w.heap.size->F k)/\(∀k,a k->k<w'.heap.size)/\AL w' a (D1 ks l) cs/\Chg w w' []
theorem TT{l:List SA}(h:∀p∈l,Fy p):(l.flatMap Prod.snd).length=l.length*6:=by
 induction l with
 |nil=>rfl
 |cons p l c=>
  have a:=(h p Zh).length;unfold CX at a;rw[List.flatMap_cons,Qk,c fun q b=>h q (by simp[b]),Qj];simp only[Qj]at a;omega
theorem Wx{cl:List (List Vl)}(b:∀c∈cl,c.length=6):∀(i:Nat) (c:List Vl),cl[i]? =nM c->∀(j:Nat) (v:Vl),c[j]? =nM v->cl.flatten[i*6+j]? =nM v:=by
 induction cl with
 |nil=>intro i c h;simp at h
 |cons d cl f=>
  intro i c h j v a;rw[List.flatten_cons]
  cases i with
  |zero=>
   simp at h;subst h;rw[Nat.zero_mul,Nat.zero_add,List.getElem?_append_left (Qc.1 a).1,a]
  |succ i=>
   have g:=b d Zh;rw[List.getElem?_append_right Zj,show(i+1)*6+j-d.length=i*6+j from by omega];exact f (fun c e=>b c (by simp[e])) i c (by simpa using h) j v a
theorem Xz(F:Nat->Prop)(ks:List BY)(l:List Tr)(sk si:Vl)(vs:List Vl)(w:Wl)(hK:As w sk 1 ks.length (Ad ks))(hI:As w si 6 l.length vs)(hV:Aq w F l vs)(hF:∀b,F b->b<w.heap.size)(d:∀s∈ks,JA s)(bv:ks.Nodup)(hl:ks.length=l.length)(hn:ks.length<=65536):
  Cl prog 94 #[sk,si] w (PR F ks l w):=by
 obtain⟨ka,kc,rfl,bX,_⟩:=hK.form;obtain⟨ia,ic,rfl,cc,_⟩:=hI.form;obtain⟨cl,bk,bl,aC⟩:=hV.chunks;rw[<-hl]at hI|-;obtain⟨n,aU⟩:=Ue ks.length
 rw[<-aU]at hK hI hn bX|-;have cd:n<=ic:=Zj
 obtain⟨Z,ao⟩:=Ue (ks.zip cl)
 have bh:Z.length=n:=by rw[ao,List.length_zip];omega
 have bi:∀p∈Z,Fy p:=by
  intro p y;rw[ao]at y;obtain⟨j,hj⟩:=List.mem_iff_getElem?.1 y;obtain⟨T,B⟩:=List.getElem?_zip_eq_some.1 hj;have Y:j<l.length:=by have:=(Qc.1 B).1;omega
  exact(aC j l[j] p.2 (Q9 Y) B).mem (d _ (Qi T))
 have bg:∀i,i<n->∃p:SA,Z[i]? =nM p/\ks[i]? =nM p.1/\cl[i]? =nM p.2:=by
  intro i hi;have:i<Z.length:=Zj
  obtain⟨p,y⟩:∃p,Z[i]? =nM p:=⟨_,Q9 this⟩
  refine⟨p,y, ?_⟩;rw[ao]at y;exact List.getElem?_zip_eq_some.1 y
 have bo:∀i c,cl[i]? =nM c->∀j v,c[j]? =nM v->vs[i*6+j]? =nM v:=by
  rw[bk];refine Wx fun c hc=> ?_
  obtain⟨j,hj⟩:=List.mem_iff_getElem?.1 hc;have Y:j<l.length:=by have:=(Qc.1 hj).1;omega
  exact(aC j l[j] c (Q9 Y) hj).length
 have HK:=hZ hK;have HI:=hZ hI;have HV:=hZ hV;have HF:=hZ hF;have a4:=hZ bv;have ad:=hZ bh;have aB:=hZ bi;have bU:=hZ bg;have HZ:=hZ ao;have bI:=hZ bo;have HN:=hZ aU;have aE:=hZ bl;have bH:=hZ aC;have ax:=hZ hl;have b6:=hZ d;have a7:=UD (Ac (w.alloc (nC (vC 0 false 0 ⟨#[]⟩ (nS nN 0 0) (nS nN 0 0)).toArray 29)) w.heap.size (vC 0 false 0 ⟨#[]⟩ (nS nN 0 0) (nS nN 0 0)) 29) (Ac.new w _ _);clear hK hI hV hF d bv bk bl aC ao bi bg bh bo aU hl;go_enter func94,ntmps94
 go_wp2_with fail
 rw[<-Jy];obtain⟨w1,aD⟩:=Ue (w.alloc (nC (vC 0 false 0 ⟨#[]⟩ (nS nN 0 0) (nS nN 0 0)).toArray 29))
 rw[<-aD]at a7|-;have aG:Hid (Chg w w1 []):=by rw[aD];exact hZ ((Chg.refl w []).alloc _)
 have b4:w1.heap.size=w.heap.size+1:=by rw[aD];simp
 clear aD;go_loopw [5,6] (fun v5 v6 wr=>∃i:Nat,i<=n/\v6= nI nX i/\Ba wr v5 255 7 i (CQ (Z.take i))/\Chg w1 wr []/\(∀g,v5.ownBlock=nM g->w1.heap.size<=g)) (fun _ v6 _=>n-(intOf v6).toNat)
 case atStart=>exact⟨0,Zj,rfl,Ba.nil _ _ _,Chg.refl _ _,fun g a=>(by cases a)⟩
 case round=>
  obtain⟨wa,rfl⟩:=Ue wr
  obtain⟨i,hi,rfl,hL,a,ho⟩:=hrel;have HL:=hZ hL;have HG:=hZ a;have HO:=hZ ho;clear hL a ho;by_cases Y:i<n
  .obtain⟨p,aW,bz,bA⟩:=bU.o i Y
   have bZ:=aB.o p (Qi aW);obtain⟨kb,ko,rfl,bt⟩:=HK.o.get (i:=i) (v:= nG p.1) (by simp[Ad,bz]);obtain⟨ib,io,rfl,br⟩:=HI.o.base Zj ZM;have ce:=(aG.o.trans HG.o).keeps bt;obtain⟨_,Q,G,E,R,L,N,M,I,K,J,ep⟩:=bZ
   have W:∀j v,p.2[j]? =nM v->wa.cell? ⟨ib,io+i*6+j,nN⟩=nM v:=fun j v hv=>by
    rw[Nat.add_assoc];exact(aG.o.trans HG.o).keeps (br _ v (bI.o i p.2 bA j v hv))
   rw[ep]at W;have c0:=W 0 _ rfl;have c1:=W 1 _ rfl;have c2:=W 2 _ rfl;have c3:=W 3 _ rfl;have c4:=W 4 _ rfl;have c5:=W 5 _ rfl;rw[Nat.add_zero]at c0
   have bR:Hid (CQ (Z.take (i+1))=CQ (Z.take i)++[nG p.1,nI nX Q,.bool G,nI .u64 E,nG R,nS L N M,nS I K J]):=by
    unfold Hid;rw[List.take_add_one,aW,EM];simp only[Option.toList_some,Bm,CX,ep,vC];simp[CQ]
   clear W br bt ep aW bz bA;go_wp2_with fail
   go_region_law(first
    |(go_loud(refine Bw rfl _ _ _ rfl 255 V6 7 104 ZM underlying253 Ic rfl u5 i (CQ (Z.take i)) ZN (by exact HL.o.kept (bs:=[]) (by exact cg cR) Zh) wa.heap.size [nG p.1,nI nX Q,.bool G,nI .u64 E,nG R,nS L N M,nS I K J] ZN ZN (by exact Cm _ _ _) (by intro u hu;simp only[Qh,List.not_mem_nil,or_false]at hu;rcases hu with rfl|rfl|rfl|rfl|rfl|rfl|rfl<;>rfl) Zj Zj ?_;intro g b7 z aN a8 a9;rw[<-bR.o]at aN;have bM:=hZ aN;have bG:=hZ a8;have aI:=hZ a9;clear aN a8 a9)))
   all_goals
    go_wp2_with fail
    go_roundw
    case rel=>
     have z1:=HG.o.size;refine⟨i+1,Zj,by go_num,bM.o,Chg.own (sv:= nS nN 0 0) (by exact cg HG.o) bG.o (fun g a=>by cases a) (fun g a=> .inr (HO.o g a)),fun C f=> ?_⟩;simp[Vl.ownBlock]at f;subst f
     rcases aI.o with h|h
     .exact HO.o _ h
     .simp at h;omega
    case measure=>simp[intOf];omega
  .obtain rfl:i=n:=by omega
   have bC:Z.take i=Z:=Qn (Nat.le_of_eq ad.o);rw[bC]at HL;clear bC;obtain⟨a5,c5,rfl,bV⟩:=HL.o.form;have bB:=HL.o.rowC (by rw[D4 aB.o,ad.o]);have bE:(Z.map Prod.fst).Nodup:=by rw[HZ.o,List.map_fst_zip (by have:=aE.o;have:=ax.o;omega)];exact a4.o
   have aJ:Hid (∀w',Chg wa w' []->Cl prog 140 #[nS a5 i c5] w' fun e bF=>(∃v,e= nR v/\As bF v 7 i (CQ (Hl Prod.fst Z)))/\Chg w' bF []):=fun w' hc=>by
    have:=RR i Z (nS a5 i c5) w' (Nat.le_of_eq ad.o) (by rw[ad.o];exact bB.kept hc) aB.o bE (by have:=ad.o;omega);unfold Fz at this;rw[ad.o]at this;exact this
   obtain⟨S,hS⟩:=Ue (Hl Prod.fst Z)
   rw[<-hS]at aJ;have be:S.length=i:=by rw[hS,Jt];exact ad.o
   have bf:∀p∈S,Fy p:=fun p y=>by rw[hS]at y;exact aB.o p ((Ka Prod.fst).1 y)
   have HS:=hZ hS;have al:=hZ be;have aK:=hZ bf;clear hS be bf bB bE bV;go_wp2_with(first|(go_at_call 140;refine(aJ.o _ (by exact cg cR)).mono ?_;rintro e z ⟨⟨v3,rfl,aQ⟩,bp⟩;obtain⟨a6,c6,rfl,ca,_⟩:=aQ.form;have bT:=hZ aQ;have aI:=hZ bp;clear aQ bp))
   obtain⟨w4,ap⟩:=Ue (z.alloc (nC #[nI nX 6,.bool false,nI .u64 0,nG ⟨#[]⟩,nS nN 0 0,nS nN 0 0] 29))
   have HQ:Hid (Ac w4 z.heap.size (vC 6 false 0 ⟨#[]⟩ (nS nN 0 0) (nS nN 0 0)) 29):=by rw[ap];exact hZ (Ac.new z _ _)
   have bJ:Hid (Chg z w4 []):=by rw[ap];exact hZ ((Chg.refl z []).alloc _)
   have aH:=UD (Chg w1 z []) (HG.o.trans aI.o);have b1:w4.heap.size=z.heap.size+1:=by rw[ap];simp
   have b0:w1.heap.size<=z.heap.size:=aH.o.size;rw[<-ap];obtain⟨q,hq⟩:=Ue z.heap.size
   rw[<-hq]at HQ b1 b0|-;have aA:=hZ hq;clear ap hq aJ HL HO
   go_loopw [8] (fun v8 wr=>∃(j:Nat) (ar aq:Vl),j<=i/\v8= nI nX j/\Ac wr q (vC 6 false 0 ⟨#[]⟩ aq ar) 29/\AK wr ar 9 (Ad ((S.take j).map Prod.fst))/\Ba wr aq 29 6 j ((S.take j).flatMap Prod.snd)/\Chg z wr []/\
     (∀g,ar.ownBlock=nM g->q<g)/\(∀g,aq.ownBlock=nM g->q<g)/\(∀g,ar.ownBlock=nM g->aq.ownBlock=nM g->False)) (fun v8 _=>i-(intOf v8).toNat)
   case atStart=>exact⟨0,_,_,Zj,rfl,HQ.o,AK.nil _ _,Ba.nil _ _ _,bJ.o,fun g a=>(by cases a),fun g a=>(by cases a),fun g a=>(by cases a)⟩
   case round=>
    obtain⟨wb,rfl⟩:=Ue wr
    obtain⟨j,ar,aq,hj,rfl,hB,aP,aO,a,bx,bw,bn⟩:=hrel;have HB:=hZ hB;have az:=hZ aP;have ay:=hZ aO;have ab:=hZ a;have af:=hZ bx;have ae:=hZ bw;have aF:=hZ bn;obtain⟨xl,xf,x0,x1,x2,x3,x4,x5⟩:=hB.cells6;obtain⟨ai,aj,rfl,_⟩:=aP.form;obtain⟨O,P,rfl,_⟩:=aO.form;have aS:(Ad ((S.take j).map Prod.fst)).length=j:=by rw[Ao,List.length_map,Ql,al.o];omega
    rw[aS]at az x5 HB af aF;have av:=hZ aS;clear hB aP aO a bx bw bn aS;by_cases Y:j<i
    .obtain⟨p,y⟩:∃p,S[j]? =nM p:=⟨_,Q9 (by have:=al.o;omega)⟩
     obtain⟨bY,Q,G,E,R,L,N,M,I,K,J,ep⟩:=aK.o p (Qi y);obtain⟨b,o,rfl,X⟩:=bT.o.base Zj ZM
     have H:∀v m,(CX p)[m]? =nM v->(CQ S)[j*7+m]? =nM v:=fun v m hv=>by
      have T:(CQ S).drop (j*7)=CQ (S.drop j):=Ok aK.o j
      have B:S.drop j=p::S.drop (j+1):=by
       obtain⟨a1,a2⟩:=Qc.1 y;rw[List.drop_eq_getElem_cons a1,a2]
      rw[<-List.getElem?_drop,T,B,Bm,List.getElem?_append_left (Qc.1 hv).1];exact hv
     have bu:CX p=[nG p.1,nI nX Q,.bool G,nI .u64 E,nG R,nS L N M,nS I K J]:=by unfold CX;rw[ep];rfl
     rw[bu]at H
     have bj:∀A,Chg z A []->A.cell? ⟨b,o+j*7,nN⟩=nM (nG p.1)/\A.cell? ⟨b,o+j*7+1,nN⟩=nM (nI nX Q)/\A.cell? ⟨b,o+j*7+1+1,nN⟩=nM (.bool G)/\A.cell? ⟨b,o+j*7+1+2,nN⟩=nM (nI .u64 E)/\
       A.cell? ⟨b,o+j*7+1+3,nN⟩=nM (nG R)/\A.cell? ⟨b,o+j*7+1+4,nN⟩=nM (nS L N M)/\A.cell? ⟨b,o+j*7+1+5,nN⟩=nM (nS I K J):=fun A hx=>by
      simp only[Nat.add_assoc];exact⟨hx.keeps (X _ _ (H _ 0 rfl)),hx.keeps (X _ _ (H _ 1 rfl)),hx.keeps (X _ _ (H _ 2 rfl)),hx.keeps (X _ _ (H _ 3 rfl)),hx.keeps (X _ _ (H _ 4 rfl)),hx.keeps (X _ _ (H _ 5 rfl)),hx.keeps (X _ _ (H _ 6 rfl))⟩
     have aX:=hZ bj;have bL:Hid (Ad ((S.take (j+1)).map Prod.fst)=Ad ((S.take j).map Prod.fst)++[nG p.1]):=by unfold Hid;rw[List.take_add_one,y];simp[Ad]
     have bK:Hid ((S.take (j+1)).flatMap Prod.snd=(S.take j).flatMap Prod.snd++[nI nX Q,.bool G,nI .u64 E,nG R,nS L N M,nS I K J]):=by unfold Hid;rw[List.take_add_one,y,List.flatMap_append];simp[ep,vC]
     have y0:=(aX.o wb ab.o).1;have bQ:=UD (q∉(Vl.slice ai j aj).ownBlock.toList) fun r=>by have:=af.o q (by simpa using r);omega
     have bP:=UD (q∉(Vl.slice O j P).ownBlock.toList) fun r=>by have:=ae.o q (by simpa using r);omega
     clear bj bu H X ep y bY
     go_upto_region 11 with(fail)
     go_cut [36]from 30 to 55 (fun _ A=>∃D am,Ac A q (vC 6 false 0 ⟨#[]⟩ (nS O j P) (nS (nM ⟨D,0,nN⟩) (j+1) am)) 29/\AK A (nS (nM ⟨D,0,nN⟩) (j+1) am) 9 (Ad ((S.take (j+1)).map Prod.fst))/\
      Ba A (nS O j P) 29 6 j ((S.take j).flatMap Prod.snd)/\Chg z A []/\q<D/\((Vl.slice O j P).ownBlock=nM D->False))
     case first=>
      go_region_law(first
       |(go_loud(refine Df rfl _ _ _ rfl 9 Ho 16 underlying27 Cf rfl (nS ai j aj) (Ad ((S.take j).map Prod.fst)) ZN (by exact az.o.kept (bs:=[]) (by exact cg cR) Zh) wb.heap.size (nG p.1) ZN (by exact Bx Zh _ _) rfl (by rw[av.o];omega) (by rw[av.o];omega) ?_;rw[av.o];intro D am w9 V U ah;have aa:=hZ ((HB.o.alloc (nC #[nG p.1] 9)).drew.kept U bQ.o);have e9:w9.cell? ⟨q,5,nN⟩=nM (nS ai j aj):=aa.o.cell 5;have f9:∀j,w9.frozen? ⟨q,j,nN⟩=false:=(fun j=>aa.o.frozen j);have ck:=aa.o.lt;have aw:=hZ V;have aZ:=hZ U;have ak:=hZ ah;clear V U ah)))
      all_goals(go_wp2_with fail;go_meet)
      all_goals
       have hz:=ab.o.size;have b2:=HB.o.lt
       have bq:q<D:=by
        rcases ak.o with h|h
        .exact af.o _ h
        .simp at h;omega
       have aL:Chg z w9 []:=Chg.own (sv:= nS nN 0 0) (by exact cg ab.o) aZ.o (fun g a=>by cases a) (fun g a=> .inr (by have:=af.o g a;have:=aA.o;omega));refine⟨D,am,(aa.o.set 5 _).eq rfl, ?_, ?_,aL.setCell _ _ (by simp only;have:=aA.o;omega),bq, ?_⟩
       .rw[bL.o]
        exact aw.o.kept (bs:=[q]) ((Chg.refl _ _).setCell _ _ Zh) (fun C f r=>by simp[Vl.ownBlock]at f r;omega)
       .refine(((ay.o.kept (bs:=[]) ((Chg.refl wb []).alloc (nC #[nG p.1] 9)).drew Zh).kept aZ.o ?_).kept (bs:=[q]) ((Chg.refl _ _).setCell _ _ Zh) ?_)
        .exact fun C f r=>aF.o C (by simpa using r) f
        .exact fun C f r=>by have:=ae.o C f;simp at r;omega
       .intro h'
        have B:=ay.o.lt h'
        rcases ak.o with h|h
        .exact aF.o _ h h'
        .simp at h;omega
     case rest=>
      obtain⟨D,am,an,V,bd,ah,bq,bm⟩:=hcut;obtain⟨yl,yf,cm,y1,y2,y3,y4,y5⟩:=an.cells6;obtain⟨m0,m1,m2,m3,m4,m5,m6⟩:=aX.o wc ah;have aa:=hZ an;have aw:=hZ V;have bO:=hZ bd;have ak:=hZ ah;have a0:=hZ bm;clear an V bd ah bm y0 x0 x1 x2 x3 x4 x5 xf xl
      go_upto_region 12 with(fail)
      go_region_law(first
       |(go_loud(refine Bw rfl _ _ _ rfl 29 NP 6 88 ZM underlying26 Dp rfl (nS O j P) j ((S.take j).flatMap Prod.snd) ZN (by exact bO.o.kept (bs:=[]) (by exact cg cR) Zh) wc.heap.size [nI nX Q,.bool G,nI .u64 E,nG R,nS L N M,nS I K J] ZN ZN (by exact Cm _ _ _) (by intro u hu;simp only[Qh,List.not_mem_nil,or_false]at hu;rcases hu with rfl|rfl|rfl|rfl|rfl|rfl<;>rfl) Zj Zj ?_;intro g8 b8 w8 bc aM ba;have au:=hZ ((aa.o.alloc (nC #[nI nX Q,.bool G,nI .u64 E,nG R,nS L N M,nS I K J] 29)).drew.kept aM bP.o);have e8:w8.cell? ⟨q,4,nN⟩=nM (nS O j P):=au.o.cell 4;have f8:∀j,w8.frozen? ⟨q,j,nN⟩=false:=(fun j=>au.o.frozen j);have cj:=au.o.lt;have bN:=hZ bc;have aY:=hZ aM;have a3:=hZ ba;clear bc aM ba)))
      all_goals
       go_wp2_with fail
       go_roundw
       case rel=>
        have hz:=ab.o.size;have b5:=ak.o.size;have b3:=aA.o;have b2:=aa.o.lt;have aL:Chg z w8 []:=Chg.own (sv:= nS nN 0 0) (by exact cg ak.o) aY.o (fun g a=>by cases a) (fun g a=> .inr (by have:=ae.o g a;omega))
        have cb:q<g8:=by
         rcases a3.o with h|h
         .exact ae.o _ h
         .simp at h;omega
        have cf:g8≠D:=by
         intro he
         rcases a3.o with h|h
         .exact a0.o (he▸h)
         .have:=aw.o.lt (g:=D) rfl
          simp at h;omega
        refine⟨j+1,_,_,Zj,by go_num,(au.o.set 4 _).eq rfl, ?_, ?_,aL.setCell _ _ (by simp only;omega), ?_, ?_, ?_⟩
        .refine(((aw.o.kept (bs:=[]) ((Chg.refl wc []).alloc (nC #[nI nX Q,.bool G,nI .u64 E,nG R,nS L N M,nS I K J] 29)).drew Zh).kept aY.o ?_).kept (bs:=[q]) ((Chg.refl _ _).setCell _ _ Zh) ?_)
         .intro C f r
          simp[Vl.ownBlock]at f;subst f;exact a0.o (by simpa using r)
         .intro C f r
          simp[Vl.ownBlock]at f r;omega
        .rw[bK.o]
         exact bN.o.kept (bs:=[q]) ((Chg.refl _ _).setCell _ _ Zh) (fun C f r=>by simp[Vl.ownBlock]at f r;omega)
        .intro C f;simp[Vl.ownBlock]at f;omega
        .intro C f;simp[Vl.ownBlock]at f;omega
        .intro C T B;simp[Vl.ownBlock]at T B;omega
       case measure=>simp[intOf];omega
    .obtain rfl:j=i:=by omega
     have bD:S.take j=S:=Qn (Nat.le_of_eq al.o);rw[bD]at az ay av;have bS:=UD (Ac wb w.heap.size (vC 0 false 0 ⟨#[]⟩ (nS nN 0 0) (nS nN 0 0)) 29) ((a7.o.kept aH.o).kept ab.o);clear bD
     go_wp2_with(first
      |(refine Ae rfl _ _ _ rfl w.heap.size (vC 6 false 0 ⟨#[]⟩ (nS O j P) (nS ai j aj)) ZN ZN _ _ bS.o A9 rfl (by intro u hu;simp only[vC,Qh,List.not_mem_nil,or_false]at hu;rcases hu with rfl|rfl|rfl|rfl|rfl|rfl<;>rfl) ?_;intro w9 b5 an U))
     refine bodyPost_ret (Bi rfl _ _ w.heap.size 29 (vC 6 false 0 ⟨#[]⟩ (nS O j P) (nS ai j aj)) _ rfl an underlying29 rfl A9) rfl ?_;have b9:=U;have ci:=b4;have ch:=ab.o.size;have b3:=aA.o;have aR:Chg w w9 []:=((aG.o.trans aH.o).trans ab.o).step U (fun i hi Y=>by simp at hi;omega);obtain⟨F',ag⟩:∃F':Nat->Prop,F'=fun k=>F k\/(w.heap.size<=k/\k<w9.heap.size):=⟨_,rfl⟩
     have V:=az.o.kept U (fun g a r=>by have:=af.o g a;simp at r;omega);have bb:=ay.o.kept U (fun g a r=>by have:=ae.o g a;simp at r;omega);have bW:S.map Prod.fst=AY ks:=by rw[HS.o,HZ.o];exact Lk (by have:=aE.o;have:=ax.o;omega)
     have aV:(LA ks l).length=j:=by rw[DD];exact HN.o.symm
     have aT:(AY ks).length=j:=by rw[A3];exact HN.o.symm
     refine⟨F',_,rfl,fun k d=>by rw[ag];exact .inl d,fun k d Y=> ?_,fun k d=> ?_, ?_,aR⟩
     .rw[ag]at d
      rcases d with d|d
      .exact d
      .omega
     .rw[ag]at d
      rcases d with d|d
      .exact Q6 (HF.o k d) aR.size
      .exact d.2
     .unfold D1
      simp only[AL];refine⟨O,P,ai,aj,S.flatMap Prod.snd,by rw[aV,aT];rfl,by rw[aV,aT], ?_, ?_, ?_⟩
      .rw[aT,<-bW]
       refine V.rowAt fun g a=> ?_
       rw[ag];have:=af.o g a;have:=V.lt a;exact .inr ⟨Zj,Zj⟩
      .refine bb.rowN ?_ fun g a=> ?_
       .rw[TT aK.o,al.o]
       .rw[ag]
        have:=ae.o g a;have:=bb.lt a;exact .inr ⟨Zj,Zj⟩
      .rw[<-WW]
       refine Hb (by rw[List.length_map,al.o,aV]) fun x t c T B=> ?_
       obtain⟨s,hs⟩:∃s,(AY ks)[x]? =nM s:=⟨_,Q9 (by have:=(Qc.1 T).1;omega)⟩
       obtain⟨t',g1,g2⟩:=Rp ax.o hs;rw[T]at g2
       injection g2 with g2
       subst g2;obtain⟨c',k1,k2⟩:=Sj (cl:=cl) a4.o (by have:=aE.o;have:=ax.o;omega) hs;rw[<-HZ.o,<-HS.o]at k2;rw[List.getElem?_map,k2]at B
       injection B with B
       subst B;exact AL.kept (aR.keepsF HF.o) (fun k d=>by rw[ag];exact .inl d) _ _ (bH.o _ _ _ g1 k1)
end
end Go.Proofs.YtkfnkppdhcaeoaaGreatDoor

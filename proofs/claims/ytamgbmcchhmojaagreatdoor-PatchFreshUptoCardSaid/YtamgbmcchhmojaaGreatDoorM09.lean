/- Part 9 of the proof of patchFresh_card. -/
import Derived.Deep.CutRange
import Derived.Laws.Bits64b
import Derived.Test.YtamgbmcchhmojaaGreatDoorM07
set_option maxRecDepth 100000
set_option maxHeartbeats 32000000
set_option linter.all false
namespace Go.Proofs.YtamgbmcchhmojaaGreatDoor
open Go renaming Calls->Cl,TypeId->Ti,Value->Vl,World->Wl
open Go.Value renaming agg->nA,iface->nF,int->nI,pointer->nP,slice->nS,string->nG
open Go.IntKind renaming i64->nX
open Go.Ending renaming returned->nR
open Go.Obj renaming cells->nC
open Option renaming none->nN,some->nM
section
open _root_.Go.Proofs.Tryz
open Go Go.RowKit Tree
variable{n sz:Nat}{p:Prop}{e:Ti}{w:Wl}
theorem Ov(F:Nat->Prop)(sk:Vl)(ks:List BY)(w:Wl)(r:Ax w F sk (Ad ks))(f:∀s∈ks,s.size<=2147483648)(A:ks.length<=4294967296):
  Cl prog 91 #[sk] w fun e w'=>e= nR (.bool (ks.all Utf.Al))/\Chg w w' []:=by
 obtain⟨a,c,rfl,p⟩:=r.cell;have t:(Ad ks).length=ks.length:=by simp[Ad]
 rw[t];have u:=hZ p;have v:=hZ f;clear p f t r;go_enter func91,ntmps91;go_wp2_with fail;go_loopw [3] (fun m wr=>∃i:Nat,i<=ks.length/\m= nI nX i/\Chg w wr []/\(ks.take i).all Utf.Al=true) (fun m _=>ks.length-(intOf m).toNat)
 case atStart=>exact⟨0,Zj,rfl,by exact cg cR,rfl⟩
 case round=>
  obtain⟨i,hi,rfl,q,d⟩:=hrel;have g:=hZ q;have l:=hZ d;clear q d;by_cases x:i<ks.length
  .obtain⟨s,f⟩:∃s,ks[i]? =nM s:=⟨_,Q9 x⟩;have j:s∈ks:=List.mem_iff_getElem?.2 ⟨i,f⟩;obtain⟨b,o,rfl,_,n⟩:=u.o i (nG s) (by simp[Ad,f]);have B:=g.o.keeps n;have h:=hZ (Ii s wr (v.o s j));have z:=hZ f;by_cases d:Utf.Al s=true
   .rw[d]at h;have k:=UD ((ks.take (i+1)).all Utf.Al=true) (by rw[List.take_add_one,f,List.all_append,l.o];simp[d]);clear n f j d;go_wp2_with fail;refine h.o.mono ?_;rintro e y ⟨rfl,rfl⟩;go_wp2_with fail;go_roundw
    case rel=>exact⟨i+1,Zj,by go_num,g.o,k.o⟩
    case measure=>simp[intOf];omega
   .have d:Utf.Al s=false:=by simpa using d
    rw[d]at h
    have k:=UD (ks.all Utf.Al=false) (by
     rw[List.all_eq_false];exact⟨s,j,by simp[d]⟩)
    clear n f j d;go_wp2_with fail;refine h.o.mono ?_;rintro e y ⟨rfl,rfl⟩;go_wp2_with fail;go_ret;exact⟨congrArg (fun b=>Ending.returned (.bool b)) k.o.symm,g.o⟩
  .obtain rfl:i=ks.length:=by omega
   rw[Qn (Q8 _)]at l;go_wp2_with fail;go_ret;exact⟨congrArg (fun b=>Ending.returned (.bool b)) l.o.symm,g.o⟩
theorem UU(b:Nat)(d:b<18446744073709551616):(bits .and .u64 ((b:Int)/4503599627370496) 2047 !=2047)=Fl.Fh b:=by
 have a:((b:Int)/4503599627370496)=((b/4503599627370496:Nat):Int):=Zj;have c:(2047:Int)=((2047:Nat):Int):=rfl;rw[a,c,bits_and_u64_nat _ _ Zj ZM,show(2047:Nat)=2^11-1 from rfl,Nat.and_two_pow_sub_one_eq_mod];unfold Fl.Fh Fl.A7;rw[Bool.eq_iff_iff];simp;omega
theorem MM(b:Nat)(c:b<18446744073709551616)(w:Wl):
  Cl prog 89 #[nI .u64 b] w fun e w'=>e= nR (.bool (Fl.Fh b))/\Chg w w' []:=by
 have a:=hZ (UU b c);go_enter func89,ntmps89;go_wp2;go_ret;exact⟨Bo a.o,Chg.refl _ _⟩
def JA(s:BY):Prop:=Utf.Al s=true/\s.size<=2147483648
theorem FV(l m:List BY):Ad (l++m)=Ad l++Ad m:=by simp[Ad]
theorem VN(l:List BY)(k:Nat):(Ad l).take k=Ad (l.take k):=by simp[Ad,List.map_take]
theorem VM(l:List BY)(k:Nat):(Ad l).drop k=Ad (l.drop k):=by simp[Ad,List.map_drop]
def Ja(ks:List BY)(w:Wl)(e:Ending)(w':Wl):Prop:=
 (∃v,e= nR v/\AK w' v 9 (Ad (AY ks))/\∀g,v.ownBlock=nM g->w.heap.size<=g)/\Chg w w' []
theorem z0(h:p:=by
 simp[Vl.ownBlock]at n;subst n;rcases J.o with h|h
 .exact F.o _ h
 .simp at h;omega):p:=h
theorem yc(h:p:=by exact cg cR):p:=h
theorem yd(h:p:=by rw[u.o];omega):p:=h
theorem ye(h:p:=by rw[FV];exact K.o.norm Zh rfl):p:=h
theorem yg(h:p:=by rw[Qq];omega):p:=h
theorem yi(h:p:=by exact Bx Zh _ _):p:=h
theorem yp(h:p:=by exact(W.o.kept C.o).kept (bs:=[]) yc Zh):p:=h
theorem TK(N:Nat):∀(ks:List BY) (sl:Vl) (w:Wl),ks.length<=N->As w sl 1 ks.length (Ad ks)->(∀s∈ks,JA s)->ks.length<=4294967296->
  Cl prog 120 #[sl] w (Ja ks w):=by
 induction N using Nat.strongRecOn with
 |_ N ih=> ?_
 intro ks sl w hN hR hk hl;obtain⟨a,c,rfl,a0,_⟩:=hR.form;have HR:=hZ hR;have HK:=hZ hk;have aA:=hZ ih;clear hR hk ih;by_cases i:ks.length<2
 .have ay:AY ks=ks:=by
   rw[VE];match ks,i with
   |[],_=>exact Uw _
   |[x],_=>exact Ux _ x
  by_cases h0:ks.length=0
  .have aQ:ks=[]:=List.eq_nil_of_length_eq_zero h0;subst aQ;go_enter func120,ntmps120;obtain⟨ti,aR,_⟩:=info_parts Cf
   go_wp2_with(first
    |(at_builtin;refine A1 rfl _ _ _ rfl 9 ti underlying27 aR _ 0 0 (Q8 _) ZN a c ZN ?_))
   go_ret;exact⟨⟨_,rfl,by rw[ay];exact AK.lit _ [] _ 0 rfl ZM,fun g d=>by simp[Vl.ownBlock]at d;omega⟩,by exact cg cR⟩
  .have h1:ks.length=1:=by omega
   obtain⟨b,o,rfl,av⟩:=HR.o.base Zj ZM;have Z:=hZ ay;clear ay i h0;have aL:Hid (∀j v,(Ad ks)[j]? =nM v->(w.alloc (nC #[] 9)).cell? ⟨b,o+j,nN⟩=nM v):=fun j v hv=>((Chg.refl w []).alloc _).keeps (av j v hv);go_enter func120,ntmps120
   go_wp2_with(first
    |(at_builtin;go_loud(refine Ip rfl _ _ _ rfl 9 Ho 16 underlying27 Cf rfl _ [] ZN (by exact AK.lit _ [] _ 0 rfl ZM) b o ks.length c (Ad ks) ZN Zj (by simp[Ad]) (by exact fun j v hv=>by exact aL.o j v hv) (by exact Gu ks) (by simp;omega) (by simp;omega) ?_;intro g an w3 aO r t)))
   go_ret;refine⟨⟨_,rfl,by rw[Z.o];exact aO.norm (by simp[h1]) rfl,fun g' n=> ?_⟩,Chg.own (sv:= nS nN 0 0) yc r (fun g d=>by cases d) (fun g d=> .inr (by have:w.heap.size=g:=(by injection d);omega))⟩;simp[Vl.ownBlock]at n;subst n;rcases t with h|h
   .have:w.heap.size=g:=by injection h
    omega
   .simp at h;omega
 .obtain⟨b,o,rfl,av⟩:=HR.o.base Zj ZM;have aP:(ks.length:Int)/2=((ks.length/2:Nat):Int):=Zj;obtain⟨h,hh⟩:=Ue (ks.length/2);rw[<-hh]at aP;have a7:h<ks.length:=Zj;have a8:1<=h:=Zj;have au:=HR.o.head h Zj;have ao:=HR.o.tail h (ks.length-h) (c-h) Zj Zj;rw[Nat.mul_one,VN]at au;rw[Nat.mul_one,VM]at ao;simp only[Option.map_some,FB]at ao;have aw:(ks.take h).length=h:=by rw[Ql];omega
  have ax:(ks.drop h).length=ks.length-h:=by rw[Qm]
  have aB:Hid (∀w',Chg w w' []->Cl prog 120 #[nS (nM ⟨b,o,nN⟩) h c] w' (Ja (ks.take h) w')):=fun w' hc=>
   aA.o h Zj (ks.take h) _ w' Zj (by rw[aw];exact au.kept hc) (fun s i=>HK.o s (List.mem_of_mem_take i)) Zj
  have aC:Hid (∀w',Chg w w' []->Cl prog 120 #[nS (nM ⟨b,o+h,nN⟩) (ks.length-h) (c-h)] w' (Ja (ks.drop h) w')):=fun w' hc=>
   aA.o (ks.length-h) Zj (ks.drop h) _ w' Zj (by rw[ax];exact ao.kept hc) (fun s i=>HK.o s (List.mem_of_mem_drop i)) Zj
  have Z:Hid (List.merge (AY (ks.take h)) (AY (ks.drop h)) (Hp fun s=>s)=AY ks):=by unfold Hid;rw[PF,List.take_append_drop]
  have G:Hid ((AY (ks.take h)).length=h/\(AY (ks.drop h)).length=ks.length-h):=by unfold Hid;rw[A3,A3,aw,ax];exact⟨rfl,rfl⟩
  have aD:Hid (∀s∈AY (ks.take h),JA s):=fun s i=>HK.o s (List.mem_of_mem_take (D9.1 i));have aE:Hid (∀s∈AY (ks.drop h),JA s):=fun s i=>HK.o s (List.mem_of_mem_drop (D9.1 i));clear au ao aw ax av hh i;have q1:h<=c:=Zj;have q2:(h:Int)<=(c:Int):=Zj;have q3:¬c=h:=Zj;have q4:h<c:=Zj;have z1:IntKind.i64.wrap (h:Int)=(h:Int):=IntWalk.i64_in _ Zj;have z2:(0:Int)<=(h:Int):=Zj;have q5:(h:Int)<=(ks.length:Int):=Zj;go_enter func120,ntmps120;go_upto_region 3 with(fail);go_cut [3,4]from 12 to 23 (fun s3 s4 wx=>AK wx s3 9 (Ad (AY (ks.take h)))/\AK wx s4 9 (Ad (AY (ks.drop h)))/\Chg w wx [])
  case first=>
   go_region_with(first
    |(go_at_call_of 120 (Vl.slice (nM ⟨b,o,nN⟩) h c);refine(aB.o _ (by first|exact(Chg.refl w []).drew|exact((Chg.refl w []).drew).trans ap)).mono ?_;rintro e w1 ⟨⟨v1,rfl,aa,a9⟩,E⟩)
    |(go_at_call 120;refine(aC.o _ (by first|exact(Chg.refl w []).drew|exact((Chg.refl w []).drew).trans E)).mono ?_;rintro e w2 ⟨⟨v2,rfl,ab,ba⟩,ap⟩))
   all_goals(go_wp2_with fail;go_meet)
   all_goals first
    |exact⟨aa.kept ap,ab,(((Chg.refl w []).drew).trans E).trans ap⟩
    |exact⟨aa,ab.kept E,(((Chg.refl w []).drew).trans ap).trans E⟩
  case rest=>
   obtain⟨aa,ab,d⟩:=hcut;have HG:=hZ d;have R:=aa.rowC;have S:=ab.rowC;rw[Ao,G.o.1]at R;rw[Ao,G.o.2]at S;obtain⟨H,aK⟩:=Ue wc;rw[<-aK]at HG R S|-;obtain⟨A,hA⟩:=Ue (AY (ks.take h));obtain⟨B,hB⟩:=Ue (AY (ks.drop h));rw[<-hA]at R Z aD G;rw[<-hB]at S Z aE G;clear aa ab d aK hA hB aB aC;obtain⟨a3,c3,rfl,a1,_⟩:=R.form;obtain⟨a4,c4,rfl,a2,_⟩:=S.form;have aM:=hZ R;have aN:=hZ S;clear R S;go_wp2_with fail
   go_loopw [3,4,5] (fun v3 v4 v5 wr=>∃(X Y f:List BY),As H v3 1 X.length (Ad X)/\As H v4 1 Y.length (Ad Y)/\AK wr v5 9 (Ad f)/\Chg H wr []/\(∀g,v5.ownBlock=nM g->H.heap.size<=g)/\
     f++List.merge X Y (Hp fun s=>s)=AY ks/\X.length+Y.length+f.length=ks.length/\(∀s∈X,JA s)/\(∀s∈Y,JA s)) (fun v3 v4 _ _=>LD v3+LD v4)
   case atStart=>exact⟨A,B,[],by rw[G.o.1];exact aM.o,by rw[G.o.2];exact aN.o,AK.nil _ _,Chg.refl _ _,fun g d=>(by cases d),Z.o,by rw[G.o.1,G.o.2];simp;omega,aD.o,aE.o⟩
   case round=>
    obtain⟨wa,rfl⟩:=Ue wr;obtain⟨X,Y,f,hX,hY,hO,d,ho,z,O,aG,aH⟩:=hrel;obtain⟨a5,c5,rfl,ad,_⟩:=hX.form;obtain⟨a6,c6,rfl,ae,_⟩:=hY.form;have HX:=hZ hX;have HY:=hZ hY;have W:=hZ hO;have p:=hZ d;have F:=hZ ho;have V:=hZ z;have T:=hZ aG;have U:=hZ aH;clear hX hY hO d ho z aG aH;have u:Hid ((Ad f).length=f.length):=Ao f;match X,Y with
    |[],[]=>
     have aF:f=AY ks:=by have:=V.o;simpa using this
     have HF:=hZ aF;clear aF;go_wp2_with fail;go_ret;exact⟨⟨_,rfl,by rw[<-HF.o];exact W.o,fun g d=>Q7 HG.o.size (F.o g d)⟩,HG.o.trans p.o⟩
    |[],y::l=>
     have L:Hid (f++[y]++List.merge [] l (Hp fun s=>s)=AY ks):=by unfold Hid;rw[<-V.o,FP,FP];simp
     obtain⟨b6,o6,rfl,ag⟩:=HY.o.base Zh ZM;have ai:=p.o.keeps (ag 0 (nG y) rfl);rw[Nat.add_zero]at ai;simp only[List.length_nil,Qj]at O ad ae|-;have aJ:f.length<=4294967296:=Zj;obtain⟨m,z⟩:=Ue (l.length+1);have am:Hid (As H (nS (nM ⟨b6,o6,nN⟩) m c6) 1 m (nG y::Ad l)):=by rw[z];exact HY.o
     have al:=hZ z;rw[<-z]at O ae|-;have aU:((m:Int)==0)=false:=yg
     have aV:(0:Int)<(m:Int):=Zj;have aW:m<=4294967297:=Zj;have az:0<m:=Zj;have aZ:decide (0<m)=true:=decide_eq_true az;clear z;clear ag;rcases Decidable.em (c6=1)with M|M
     all_goals
      go_wp2_with fail;go_quiet(fail)
      go_wp2_with(first
       |(at_builtin;refine AM rfl _ _ _ rfl 9 Ho 16 underlying27 Cf rfl u5 (Ad f) ZN (by exact W.o.kept (bs:=[]) yc Zh) wa.heap.size (nG y) ZN yi rfl yd yd ?_;rw[u.o];intro g an w3 D r t;have K:=hZ D;have I:=hZ r;have J:=hZ t;clear D r t))
      go_roundw
      case rel=>
       have z1:=p.o.size;have e1:=al.o;refine⟨[],l,f++[y],HX.o,(by first|(rw[<-Ao l];refine am.o.next _ ?_ ?_<;>(try rw[Ao])<;>omega)|(rw[<-Ao l];refine ED ?_ ?_<;>(rw[Ao];omega))),ye,Chg.own (sv:= nS nN 0 0) (by exact cg p.o) I.o (fun g d=>by cases d) (fun g d=> .inr (F.o g d)),fun g' n=> ?_,by rw[<-L.o],by rw[Qk];simp only[List.length_nil,Qj];omega,T.o,(fun s i=>U.o s (by simp[i]))⟩;exact z0
      case measure=>simp[LD];omega
    |x::k,[]=>
     have L:Hid (f++[x]++List.merge k [] (Hp fun s=>s)=AY ks):=by unfold Hid;rw[<-V.o,FQ,FQ];simp
     obtain⟨b5,o5,rfl,af⟩:=HX.o.base Zh ZM;have ah:=p.o.keeps (af 0 (nG x) rfl);rw[Nat.add_zero]at ah;simp only[List.length_nil,Qj]at O ad ae|-;have aJ:f.length<=4294967296:=Zj;obtain⟨m,z⟩:=Ue (k.length+1);have ak:Hid (As H (nS (nM ⟨b5,o5,nN⟩) m c5) 1 m (nG x::Ad k)):=by rw[z];exact HX.o
     have aj:=hZ z;rw[<-z]at O ad|-;have aU:((m:Int)==0)=false:=yg
     have aV:(0:Int)<(m:Int):=Zj;have aW:m<=4294967297:=Zj;have az:0<m:=Zj;have aZ:decide (0<m)=true:=decide_eq_true az;clear z;clear af;rcases Decidable.em (c5=1)with M|M
     all_goals
      go_wp2_with fail;go_quiet(fail)
      go_wp2_with(first
       |(at_builtin;refine AM rfl _ _ _ rfl 9 Ho 16 underlying27 Cf rfl u5 (Ad f) ZN (by exact W.o.kept (bs:=[]) yc Zh) wa.heap.size (nG x) ZN yi rfl yd yd ?_;rw[u.o];intro g an w3 D r t;have K:=hZ D;have I:=hZ r;have J:=hZ t;clear D r t))
      go_roundw
      case rel=>
       have z1:=p.o.size;have e1:=aj.o;refine⟨k,[],f++[x],(by first|(rw[<-Ao k];refine ak.o.next _ ?_ ?_<;>(try rw[Ao])<;>omega)|(rw[<-Ao k];refine ED ?_ ?_<;>(rw[Ao];omega))),HY.o,ye,Chg.own (sv:= nS nN 0 0) (by exact cg p.o) I.o (fun g d=>by cases d) (fun g d=> .inr (F.o g d)),fun g' n=> ?_,by rw[<-L.o],by rw[Qk];simp only[List.length_nil,Qj];omega,(fun s i=>T.o s (by simp[i])),U.o⟩;exact z0
      case measure=>simp[LD];omega
    |x::k,y::l=>
     obtain⟨b5,o5,rfl,af⟩:=HX.o.base Zh ZM;obtain⟨b6,o6,rfl,ag⟩:=HY.o.base Zh ZM;have ah:=p.o.keeps (af 0 (nG x) rfl);have ai:=p.o.keeps (ag 0 (nG y) rfl);rw[Nat.add_zero]at ah ai;simp only[List.length_nil,Qj]at O ad ae|-;have aJ:f.length<=4294967296:=Zj;obtain⟨P,aq⟩:=Ue (k.length+1);have ak:Hid (As H (nS (nM ⟨b5,o5,nN⟩) P c5) 1 P (nG x::Ad k)):=by rw[aq];exact HX.o
     have aj:=hZ aq;rw[<-aq]at O ad|-;have bb:((P:Int)==0)=false:=yg
     have bd:(0:Int)<(P:Int):=Zj;have bf:P<=4294967297:=Zj;have aX:0<P:=Zj;have bh:decide (0<P)=true:=decide_eq_true aX;clear aq;obtain⟨Q,ar⟩:=Ue (l.length+1);have am:Hid (As H (nS (nM ⟨b6,o6,nN⟩) Q c6) 1 Q (nG y::Ad l)):=by rw[ar];exact HY.o
     have al:=hZ ar;rw[<-ar]at O ae|-;have bc:((Q:Int)==0)=false:=yg
     have be:(0:Int)<(Q:Int):=Zj;have bg:Q<=4294967297:=Zj;have aY:0<Q:=Zj;have bi:decide (0<Q)=true:=decide_eq_true aY;clear ar;clear af ag;have kx:=T.o x Zh;have ky:=U.o y Zh;have HC:=hZ fun w=>MN x y w kx.2 ky.2 kx.1 ky.1;clear kx ky;obtain⟨q,hq⟩:=Ue (Utf.BK x y);rw[<-hq]at HC;by_cases aI:q<=0
     .have L:Hid (f++[x]++List.merge k (y::l) (Hp fun s=>s)=AY ks):=by unfold Hid;rw[<-V.o,Mj (fun s=>s) (by rw[<-hq];exact aI)];simp
      clear hq;rcases Decidable.em (c5=1)with M|M
      all_goals
       go_wp2_with fail;go_still_tail 14,Yb
       go_wp2_with(first
        |(go_at_call 154;refine(HC.o _).mono ?_;rintro e w1 ⟨rfl,E⟩;have C:=hZ ((Chg.refl wa []).drew.trans E);have aS:=C.o.keeps ah;have aT:=C.o.keeps ai;clear E)
        |(at_builtin;refine AM rfl _ _ _ rfl 9 Ho 16 underlying27 Cf rfl u5 (Ad f) ZN yp w1.heap.size (nG x) ZN yi rfl yd yd ?_;rw[u.o];intro g an w3 D r t;have K:=hZ D;have I:=hZ r;have J:=hZ t;clear D r t))
       go_roundw
       case rel=>
        have z1:=p.o.size;have z2:=C.o.size;have e1:=aj.o;have e2:=al.o;refine⟨k,(y::l),f++[x],(by first|(rw[<-Ao k];refine ak.o.next _ ?_ ?_<;>(try rw[Ao])<;>omega)|(rw[<-Ao k];refine ED ?_ ?_<;>(rw[Ao];omega))),(by rw[Qj,<-e2];exact am.o),ye,Chg.own (sv:= nS nN 0 0) (by exact cg (p.o.trans C.o)) I.o (fun g d=>by cases d) (fun g d=> .inr (F.o g d)),fun g' n=> ?_,by rw[<-L.o],by rw[Qk];simp only[List.length_nil,Qj];omega,(fun s i=>T.o s (by simp[i])),U.o⟩;exact z0
       case measure=>simp[LD];omega
     .have L:Hid (f++[y]++List.merge (x::k) l (Hp fun s=>s)=AY ks):=by unfold Hid;rw[<-V.o,K9 (fun s=>s) (by rw[<-hq];exact aI)];simp
      clear hq;rcases Decidable.em (c6=1)with M|M
      all_goals
       go_wp2_with fail;go_still_tail 14,Yb
       go_wp2_with(first
        |(go_at_call 154;refine(HC.o _).mono ?_;rintro e w1 ⟨rfl,E⟩;have C:=hZ ((Chg.refl wa []).drew.trans E);have aS:=C.o.keeps ah;have aT:=C.o.keeps ai;clear E)
        |(at_builtin;refine AM rfl _ _ _ rfl 9 Ho 16 underlying27 Cf rfl u5 (Ad f) ZN yp w1.heap.size (nG y) ZN yi rfl yd yd ?_;rw[u.o];intro g an w3 D r t;have K:=hZ D;have I:=hZ r;have J:=hZ t;clear D r t))
       go_roundw
       case rel=>
        have z1:=p.o.size;have z2:=C.o.size;have e1:=aj.o;have e2:=al.o;refine⟨(x::k),l,f++[y],(by rw[Qj,<-e1];exact ak.o),(by first|(rw[<-Ao l];refine am.o.next _ ?_ ?_<;>(try rw[Ao])<;>omega)|(rw[<-Ao l];refine ED ?_ ?_<;>(rw[Ao];omega))),ye,Chg.own (sv:= nS nN 0 0) (by exact cg (p.o.trans C.o)) I.o (fun g d=>by cases d) (fun g d=> .inr (F.o g d)),fun g' n=> ?_,by rw[<-L.o],by rw[Qk];simp only[List.length_nil,Qj];omega,T.o,(fun s i=>U.o s (by simp[i]))⟩;exact z0
       case measure=>simp[LD];omega
theorem ZF{x y:BY}(h:x≠y):(x.toList==y.toList)=false:=by
 rw[Qq];intro e;rw[ByteArray.toList_eq,ByteArray.toList_eq]at e;exact h (ByteArray.ext (Array.toList_inj.1 e))
theorem Ow(ks:List BY)(Q:Vl)(w:Wl)(C:As w Q 1 ks.length (Ad ks))(N:∀s∈ks,JA s)(hl:ks.length<=4294967296):
  Cl prog 92 #[Q] w fun e w'=>e= nR (.bool (!decide ks.Nodup))/\Chg w w' []:=by
 obtain⟨a,c,rfl,ae,_⟩:=C.form;have H:=hZ fun w' (h:Chg w w' [])=>TK ks.length ks _ w' (Q8 _) (C.kept h) N hl;have D:=TU (l:=AY ks) (Cs (fun s=>s) ks);rw[Lb]at D;have ab:=A3 ks;have u:=hZ D;obtain⟨L,B⟩:=Ue (AY ks);have T:Hid (∀w',Chg w w' []->Cl prog 120 #[nS a ks.length c] w' fun e R=>(∃v,e= nR v/\AK R v 9 (Ad L)/\∀g,v.ownBlock=nM g->w'.heap.size<=g)/\Chg w' R []):=by rw[B];exact H.o
 rw[<-B]at ab u;have ad:L.length<=4294967296:=Zj;have A:Hid ((Ad L).length=L.length):=Ao L;clear C N D B H;go_enter func92,ntmps92;go_wp2_with(first|(go_at_call 120;refine(T.o _ cR).mono ?_;rintro e w1 ⟨⟨v,rfl,r,_⟩,M⟩;obtain⟨a1,c1,rfl,_⟩:=r.form;rw[A.o]at r|-;have V:=hZ r;have G:=hZ M;clear r M));go_loopw [4] (fun F wr=>∃i:Nat,1<=i/\(i<=L.length\/i=1)/\F= nI nX i/\Chg w1 wr []/\∀j s,j+1<i->L[j]? =nM s->L[j+1]? ≠nM s) (fun F _=>L.length-(intOf F).toNat)
 case atStart=>exact⟨1,Zj,.inr rfl,rfl,Chg.refl _ _,fun j s h=>Zj⟩
 case round=>
  obtain⟨i,ag,ah,rfl,K,O⟩:=hrel;have p:=hZ K;have I:=hZ O;clear K O;by_cases ai:i<L.length
  .obtain⟨b,q⟩:∃b,i=b+1:=⟨i-1,Zj⟩;obtain⟨x,n⟩:∃x,L[b]? =nM x:=⟨_,Q9 Zj⟩;obtain⟨y,o⟩:∃y,L[b+1]? =nM y:=⟨_,Q9 Zj⟩;have t:=V.o.kept p.o;obtain⟨aa,cc,W,J⟩:=t.form;injection W with X _ Y
   subst X;subst Y;obtain⟨g,rfl⟩:=J (by intro Z;have d:=A.o;rw[Z]at d;simp at d;omega);have cx:wr.cell? ⟨g,b,nN⟩=nM (nG x):=t.cell rfl b _ (by simp[Ad,n]);have cy:wr.cell? ⟨g,i,nN⟩=nM (nG y):=t.cell rfl i _ (by simp[Ad,q,o]);have z1:(i:Int)-1=(b:Int):=Zj;have z2:(0:Int)<=(b:Int):=Zj;have z3:(b:Int)<(L.length:Int):=Zj;have z4:IntKind.i64.wrap (b:Int)=(b:Int):=IntWalk.i64_in _ Zj;have af:b<=4294967296:=Zj;rw[show(Ad L).length=L.length from A.o]at*;have S:=hZ q;clear J t;by_cases E:y=x
   .subst E;have m:¬ks.Nodup:=fun h=>(u.o.1 h) b y n o;have k:(!decide ks.Nodup)=true:=by simp[m]
    have z:=hZ k;clear m k n o q;go_wp2_with fail;go_quiet(fail);go_wp2_with fail;go_ret;exact⟨Bo z.o.symm,G.o.trans (by exact cg p.o)⟩
   .have P:∀j s,j+1<b+1+1->L[j]? =nM s->L[j+1]? ≠nM s:=by
     intro j s hj d f;by_cases e:j=b
     .subst e;rw[n]at d;rw[o]at f;injection d with d;injection f with f;exact E (f.trans d.symm)
     .exact I.o j s Zj d f
    have U:=hZ P;have hb:(y.toList==x.toList)=false:=ZF E;clear P n o q;go_wp2_with fail;go_quiet(fail);go_wp2_with fail;go_roundw
    case rel=>exact⟨i+1,Zj,.inl Zj,by go_num,by exact cg p.o,by rw[S.o];exact U.o⟩
    case measure=>simp[intOf];omega
  .have m:ks.Nodup:=u.o.2 fun i s d f=>by
    have hj:=(Qc.1 f).1;exact I.o i s Zj d f
   have k:(!decide ks.Nodup)=false:=by simp[m]
   have z:=hZ k;clear m k;go_wp2_with fail;go_ret;exact⟨Bo z.o.symm,G.o.trans p.o⟩
def V6:Vl:= nA #[nG ⟨#[]⟩,nI nX 0,.bool false,nI .u64 0,nG ⟨#[]⟩,nS nN 0 0,nS nN 0 0]
theorem Ic:(prog.info? 228).map (fun i=>(i.zero,i.size,i.bytes))=nM (nM V6,7,104):=Yb
def NP:Vl:= nA #[nI nX 0,.bool false,nI .u64 0,nG ⟨#[]⟩,nS nN 0 0,nS nN 0 0]
theorem Dp:(prog.info? 29).map (fun i=>(i.zero,i.size,i.bytes))=nM (nM NP,6,88):=Yb
theorem It:(prog.info? 228).map (·.size)=nM 7:=Yb
abbrev SA:=BY×List Vl
variable{l:List SA}
def CX(p:SA):List Vl:= nG p.1::p.2
def CQ(l:List SA):List Vl:=l.flatMap CX
def Fy(p:SA):Prop:=
 JA p.1/\∃(i:Int) (b:Bool) (a:Int) (j:BY) (f:Option Addr) (h g:Nat) (c:Option Addr) (e d:Nat),p.2=vC i b a j (nS f h g) (nS c e d)
theorem Fy.length{p:SA}(h:Fy p):(CX p).length=7:=by
 obtain⟨_,_,_,_,_,_,_,_,_,_,_,h⟩:=h;unfold CX;rw[h];rfl
theorem Bm(p:SA)(l:List SA):CQ (p::l)=CX p++CQ l:=by simp[CQ]
theorem EM(l m:List SA):CQ (l++m)=CQ l++CQ m:=by simp[CQ]
theorem D4(h:∀p∈l,Fy p):(CQ l).length=l.length*7:=by
 induction l with
 |nil=>rfl
 |cons p l b=>rw[Bm,Qk,b fun q a=>h q (by simp[a]),(h p Zh).length,Qj];omega
theorem Va(h:∀p∈l,Fy p)(k:Nat):(CQ l).take (k*7)=CQ (l.take k):=by
 induction l generalizing k with
 |nil=>simp[CQ]
 |cons p l b=>
  cases k with
  |zero=>simp[CQ]
  |succ k=>
   rw[Bm,List.take_succ_cons,Bm,List.take_append,(h p Zh).length,Qn (by rw[(h p Zh).length];omega),show(k+1)*7-7=k*7 from by omega,
    b fun q a=>h q (by simp[a])]
theorem Ok(h:∀p∈l,Fy p)(k:Nat):(CQ l).drop (k*7)=CQ (l.drop k):=by
 induction l generalizing k with
 |nil=>simp[CQ]
 |cons p l b=>
  cases k with
  |zero=>simp
  |succ k=>
   rw[Bm,List.drop_succ_cons,List.drop_append,(h p Zh).length,List.drop_of_length_le (by rw[(h p Zh).length];omega),show(k+1)*7-7=k*7 from by omega,
    b fun q a=>h q (by simp[a]),List.nil_append]
theorem Ba.capLe{a:Option Addr}{m cap:Nat}{vs:List Vl}(h:Ba w (nS a n cap) e sz m vs):n=m/\m<=cap:=by
 rcases h.2 with⟨b,i⟩|⟨g,d,f,c,_,_,j,_⟩
 .injection b;omega
 .injection c;omega
theorem Ba.rowC{sv:Vl}{xs:List Vl}(h:Ba w sv e sz n xs)(d:xs.length=n*sz):As w sv sz n xs:=by
 obtain⟨a,c,rfl,k⟩:=h.form;have j:=h.capLe;refine⟨a,c,rfl,j.2,d,fun i v f=> ?_⟩
 obtain⟨g,rfl⟩:=k (by
  rcases Nat.eq_zero_or_pos n with b|b
  .have:=(Qc.1 f).1;rw[d,b]at this;omega
  .exact b)
 exact⟨g,0,rfl,by rw[Nat.zero_add];exact h.cell rfl i v f⟩
end
section
open Go Go.RowKit Tree
variable{cl:List (List Vl)}{ks:List BY}{r row:List Tr}{k:Nat}{F:Nat->Prop}{w:Wl}
theorem Lk(a:ks.length=cl.length):(Hl Prod.fst (ks.zip cl)).map Prod.fst=AY ks:=by
 have c:(ks.zip cl).map Prod.fst=ks:=List.map_fst_zip (Nat.le_of_eq a)
 have b:((Hl Prod.fst (ks.zip cl)).map Prod.fst).Perm ks:=by
  have:=(Gs Prod.fst (ks.zip cl)).map Prod.fst;rwa[c]at this
 refine DU (fun s=>s) (b.trans (DG ks).symm) ?_ (Cs (fun s=>s) ks) (fun _ _ _ _ h=>h);rw[List.pairwise_map];exact Cs Prod.fst (ks.zip cl)
theorem Sj(m:ks.Nodup)(k:ks.length=cl.length){i:Nat}{s:BY}(h:(AY ks)[i]? =nM s):
  ∃c,cl[A5 ks s]? =nM c/\(Hl Prod.fst (ks.zip cl))[i]? =nM (s,c):=by
 rw[<-Lk k,List.getElem?_map]at h;obtain⟨p,a,rfl⟩:=Option.map_eq_some_iff.1 h;have l:p∈ks.zip cl:=(Ka Prod.fst).1 (Qi a);obtain⟨j,g⟩:=List.mem_iff_getElem?.1 l;obtain⟨e,f⟩:=List.getElem?_zip_eq_some.1 g;obtain⟨b,d⟩:=Qc.1 e;have:=GU m j b;rw[d]at this;exact⟨p.2,by rw[this];exact f,a⟩
theorem Aq.chunks:∀{l:List Tr} {xs:List Vl},Aq w F l xs->∃cl:List (List Vl),xs=cl.flatten/\cl.length=l.length/\∀(i:Nat) (t:Tr) (c:List Vl),l[i]? =nM t->cl[i]? =nM c->AL w F t c
 |[],xs,h=>⟨[],by simpa[Aq]using h,rfl,fun i t c a _=>by simp at a⟩
 |t::l,xs,h=>by
  simp only[Aq]at h;obtain⟨c,r,rfl,e,f⟩:=h;obtain⟨cl,rfl,g,j⟩:=Aq.chunks f;refine⟨c::cl,rfl,by simp[g],fun i u d a b=> ?_⟩;cases i with
  |zero=>simp at a b;subst a;subst b;exact e
  |succ i=>exact j i u d (by simpa using a) (by simpa using b)
theorem Hb:∀{l:List Tr} {cl:List (List Vl)},cl.length=l.length->(∀(i:Nat) (t:Tr) (c:List Vl),l[i]? =nM t->cl[i]? =nM c->AL w F t c)->Aq w F l cl.flatten
 |[],cl,a,_=>by
  have:cl=[]:=List.eq_nil_of_length_eq_zero a;subst this;simp[Aq]
 |t::l,[],a,_=>by simp at a
 |t::l,c::cl,a,h=>by
  simp only[Aq];exact⟨c,cl.flatten,rfl,h 0 t c rfl rfl,Hb (by simpa using a) fun i u d b e=>h (i+1) u d (by simpa using b) (by simpa using e)⟩
theorem AL.mem{t:Tr}{c:List Vl}(h:AL w F t c){s:BY}(a:JA s):Fy (s,c):=by
 obtain⟨e,f,b,d,xs,h,_⟩:=h.uni;exact⟨a,_,_,_,_,_,_,_,_,_,_,h⟩
theorem WW(l:List SA):(l.map Prod.snd).flatten=l.flatMap Prod.snd:=by simp[List.flatMap]
theorem Bw{P:Program}{f:Array Oper}{o:Oper}{a:Act}{K:Act->Wl->Prop}{Q:Exit->Act->Wl->Prop}{E:Prop}(r:o.guard=nN)(s x:Operand)(t:Ti)(D:o.op= .call {callee:= .builtin .append,args:=#[s,x],argTypes:=#[t,t]})(e:Ti)(z:Vl)(sz c:Nat)(I:0<sz)(L:P.underlying t=nM (.slice e))(y:(P.info? e).map (fun i=>(i.zero,i.size,i.bytes))=nM (nM z,sz,c))(V:z.cells.size=sz)(sv:Vl)(n:Nat)(xs:List Vl)(H:a.eval s=sv)(F:Ba w sv e sz n xs)(B:Nat)(us:List Vl)(T:a.eval x= nS (nM ⟨B,0,nN⟩) 1 1)(O:us.length=sz)(M:∀j v,us[j]? =nM v->w.cell? ⟨B,j,nN⟩=nM v)(N:∀u∈us,u.oneCell'=true)(d:(n+1)*c<=140737488355328)(X:n<=140737488355328)(h:∀g cap w',Ba w' (nS (nM ⟨g,0,nN⟩) (n+1) cap) e sz (n+1) (xs++us)->Chg w w' sv.ownBlock.toList->(sv.ownBlock=nM g\/g=w.heap.size)->
   K (a.put o.dst (nS (nM ⟨g,0,nN⟩) (n+1) cap)) w'):
  if Region.wanted o (yielded f a.tmps)=true then Oper.wp P o a w K Q else E:=by
 obtain⟨i,hi,U,J,p⟩:=info_parts y
 have C:∀j v,us[j]? =nM v->w.cell? ((⟨B,0,nN⟩:Addr).add j)=nM v:=fun j v R=>by
  rw[show(⟨B,0,nN⟩:Addr).add j=⟨B,j,nN⟩from by unfold Addr.add;split<;>simp_all];exact M j v R
 obtain⟨g,cap,w',G,l,b,m,W⟩:=run_append_lies (P:=P) w t o.type 0 e i z sz c L hi U J p V I sv n xs F ⟨B,0,nN⟩ 1 1 us (by rw[O,Nat.one_mul]) C N ZM (by unfold maxLen;omega) d (Nat.zero_le _) _ rfl;have S:Region.wanted o (yielded f a.tmps)=true:=by simp[Region.wanted,r]
 rw[Qr S];unfold Oper.wp execOp;simp only[D,resolve,invoke,builtin,Sem.run_bind,Sem.run_pure,Result.andThen_ok,List.map_toArray,List.map_cons,List.map_nil,H,T,G];exact(h g cap w' l ⟨b.os,b.tape,b.output,b.size,fun k A d=>b.block k A fun q=>d (by rw[<-q];simp)⟩ m)
structure Ap where
 sort:Int
 flag:Bool
 bits:Nat
 text:BY
 count:Int
 keys:List BY
variable{s:Ap}{l:List Ap}
def Kw(s:Ap):Bool:=
 Bs s.sort s.flag s.bits s.text s.count s.keys.length&&(!decide (s.sort=3)||Fl.Fh s.bits)&&(Utf.Al s.text&&s.keys.all Utf.Al)&&decide s.keys.Nodup
def Hn(s:Ap):Nat:=s.count.toNat+s.keys.length
def CF(s:Ap)(a:List Tr):Tr:=
 if s.sort=1 then .null else if s.sort=2 then .flag s.flag else if s.sort=3 then .num (Cg s.bits)else if s.sort=4 then .text s.text else if s.sort=5 then .list a else D1 s.keys a
def AF(s:Ap)(l:List Tr):Tr:=CF s (l.drop (l.length-Hn s))
def Ds(s:Ap)(l:List Tr):Bool:=Kw s&&decide (Hn s<=l.length)&&(Ag (AF s l)).within
def NW(l:List Tr)(s:Ap):List Tr:=l.take (l.length-Hn s)++[AF s l]
structure Di(s:Ap):Prop where
 bits:s.bits<18446744073709551616
 text:s.text.size<=2147483648
 keys:s.keys.length<=2147483648
 size:∀k∈s.keys,k.size<=2147483648
 sum:Ay s.keys<=4294967296
 count: -9223372036854775808<=s.count/\s.count<=9223372036854775807
theorem CU:Kw s=true↔Bs s.sort s.flag s.bits s.text s.count s.keys.length=true/\(s.sort=3->Fl.Fh s.bits=true)/\Utf.Al s.text=true/\s.keys.all Utf.Al=true/\s.keys.Nodup:=by
 unfold Kw;simp only[Bool.and_eq_true,Bool.or_eq_true,Bool.not_eq_true',decide_eq_true_eq,decide_eq_false_iff_not];constructor
 .rintro⟨⟨⟨a,b⟩,c,d⟩,e⟩;exact⟨a,fun h=>b.resolve_left (fun g=>g h),c,d,e⟩
 .rintro⟨a,b,c,d,e⟩;refine⟨⟨⟨a, ?_⟩,c,d⟩,e⟩;by_cases h:s.sort=3
  .exact .inr (b h)
  .exact .inl h
theorem Gw(h:Bs s.sort s.flag s.bits s.text s.count s.keys.length=true):
  1<=s.sort/\s.sort<=6/\0<=s.count/\(s.flag=true->s.sort=2)/\(s.bits≠0->s.sort=3)/\(s.text≠Dz->s.sort=4)/\(s.count≠0->s.sort=5)/\(s.keys≠[]->s.sort=6):=by
 unfold Bs at h;simp only[Bool.and_eq_true,Bool.or_eq_true,decide_eq_true_eq,Bool.not_eq_true']at h;obtain⟨⟨⟨⟨⟨⟨⟨a,b⟩,c⟩,d⟩,f⟩,i⟩,j⟩,k⟩:=h;refine⟨a,b,c,fun g=>d.resolve_left (by simp[g]),fun g=>f.resolve_left g,fun g=>i.resolve_left fun e=>g ?_,fun g=>j.resolve_left g,fun g=>k.resolve_left fun e=>g (List.eq_nil_of_length_eq_zero e)⟩;rw[ByteArray.toList_eq]at e;exact ByteArray.ext (Array.toList_inj.1 e)
theorem EJ.append{l m:List Tr}(h:EJ l)(k:EJ m):EJ (l++m):=fun t a=>(Qf.1 a).elim (h t) (k t)
theorem Ww{l:List Tr}(b:EJ l)(h:Ds s l=true):EJ (NW l s):=by
 unfold Ds at h;simp only[Bool.and_eq_true]at h;exact EJ.append (b.take _) fun t a=>by simp at a;subst a;exact h.2
theorem LY{l:List Tr}:(NW l s).length<=l.length+1:=by
 unfold NW;simp
def AI(s:Ap)(sk:Vl):List Vl:=[nI nX s.sort,.bool s.flag,nI .u64 s.bits,nG s.text,nI nX s.count,sk]
def Az(w:Wl):List Ap->List Vl->Prop
 |[],xs=>xs=[]
 |s::l,xs=>∃sk r,xs=AI s sk++r/\As w sk 1 s.keys.length (Ad s.keys)/\Az w l r
theorem Az.kept{w':Wl}(a:Chg w w' []):∀{l:List Ap} {xs:List Vl},Az w l xs->Az w' l xs
 |[],_,h=>h
 |s::l,_,⟨sk,r,b,c,d⟩=>⟨sk,r,b,c.kept a,d.kept a⟩
theorem Az.length:∀{l:List Ap} {xs:List Vl},Az w l xs->xs.length=l.length*6
 |[],_,h=>by unfold Az at h;subst h;rfl
 |s::l,_,⟨sk,r,a,_,b⟩=>by subst a;have:=b.length;simp[AI];omega
theorem Az.append:∀{l m:List Ap} {xs ys:List Vl},Az w l xs->Az w m ys->Az w (l++m) (xs++ys)
 |[],_,_,_,h,k=>by unfold Az at h;subst h;exact k
 |s::l,_,_,_,⟨sk,r,a,b,c⟩,k=>⟨sk,r++_,by rw[a,List.append_assoc],b,c.append k⟩
theorem Az.get:∀{l:List Ap} {xs:List Vl},Az w l xs->∀(i:Nat) (s:Ap),l[i]? =nM s->∃sk,As w sk 1 s.keys.length (Ad s.keys)/\∀j v,(AI s sk)[j]? =nM v->xs[i*6+j]? =nM v
 |[],_,_,i,s,a=>by simp at a
 |k::l,_,⟨sk,r,c,d,e⟩,i,s,a=>by
  subst c;cases i with
  |zero=>
   simp at a;subst a;refine⟨sk,d,fun j v b=> ?_⟩;have f:j<(AI k sk).length:=(Qc.1 b).1;rw[Nat.zero_mul,Nat.zero_add,List.getElem?_append_left f,b]
  |succ i=>
   obtain⟨m,g,h⟩:=e.get i s (by simpa using a);refine⟨m,g,fun j v b=> ?_⟩;rw[List.getElem?_append_right (by simp[AI];omega),<-h j v b]
   congr 1
   simp[AI];omega
def DS:List Tr->List Ap->Option (List Tr)
 |row,[]=>nM row
 |row,s::l=>if Ds s row=true then DS (NW row s) l else nN
def CA(l:List Ap):Option Tr:=match DS [] l with
 |some [t]=>nM t
 |_=>nN
theorem OA:DS row l=(match DS row (l.take k)with|some r=>DS r (l.drop k)|none=>nN):=by
 induction l generalizing row k with
 |nil=>simp[DS]
 |cons s l a=>
  cases k with
  |zero=>simp[DS]
  |succ k=>
   simp only[List.take_succ_cons,List.drop_succ_cons,DS];split
   .exact a
   .rfl
theorem KE(h:DS row (l.take k)=nM r)(b:l[k]? =nM s):DS row (l.take (k+1))=if Ds s r=true then nM (NW r s)else nN:=by
 have a:=OA (row:=row) (l:=l.take (k+1)) (k:=k);rw[List.take_take,Nat.min_eq_left (Nat.le_succ k),h]at a;simp only at a;rw[a]
 have:(l.take (k+1)).drop k=[s]:=by
  rw[List.take_add_one,b,List.drop_append];have c:(l.take k).length=k:=by rw[Ql];have:=(Qc.1 b).1;omega
  rw[List.drop_of_length_le Zj,c];simp
 rw[this];simp[DS]
theorem Oz(h:DS row (l.take k)=nM r)(c:l[k]? =nM s)(b:Ds s r=false):DS row l=nN:=by
 have a:=OA (row:=row) (l:=l) (k:=k+1);rw[KE h c,b]at a;simpa using a
theorem Jq:∀{row r:List Tr},EJ row->DS row l=nM r->EJ r/\r.length<=row.length+l.length:=by
 induction l with
 |nil=>intro row r a h;simp[DS]at h;subst h;exact⟨a,Zh⟩
 |cons s l d=>
  intro row r a h;simp only[DS]at h;split at h
  .rename_i c;obtain⟨b,e⟩:=d (Ww a c) h;have:=LY (l:=row) (s:=s);exact⟨b,by simp only[Qj];omega⟩
  .cases h
mutual
def Av:Tr->Prop
 | .num b=>Hs b
 | .text s=>Utf.Al s=true/\s.size<=2097152
 | .list l=>KO l
 | .obj ks l=>Cy ks/\ks.length=l.length/\KO l
 |_=>True
def KO:List Tr->Prop
 |[]=>True
 |t::l=>Av t/\KO l
end
variable{ks:List BY}{l:List Tr}
theorem Cu:KO l↔∀t∈l,Av t:=by
 induction l with
 |nil=>simp[KO]
 |cons t l a=>simp only[KO,a,Qh,forall_eq_or_imp]
theorem Tk(n:Nat):Cg (Cg n)=Cg n:=by
 unfold Cg;by_cases h:Fl.A7 n=0
 .rw[Qr h];rfl
 .rw[Qs h,Qs h]
theorem Tm{n:Nat}(b:n<18446744073709551616)(a:Fl.Fh n=true):Hs (Cg n):=by
 refine⟨?_, ?_,Tk n⟩
 .unfold Cg;split<;>omega
 .unfold Cg;split
  .rfl
  .exact a
theorem Sf(h:ks.Nodup):(AY ks).Nodup:=(Lb ks).2 h
theorem KY(f:∀k∈ks,Utf.Al k=true)(c:∀k∈ks,k.size<=2147483648)(j:ks.length<=65536)(d:ks.Nodup):Cy (AY ks):=by
 refine⟨fun s c=>f s (D9.1 c),fun s h=>c s (D9.1 h), ?_,by rw[A3];omega⟩;refine((Cs (fun s=>s) ks).and (Sf d)).imp fun{a b} h=> ?_;have g:=(DW (fun s=>s)).1 h.1;have i:Utf.BK a b≠0:=fun e=>h.2 (Utf.FJ e);omega
theorem UY{s:Ap}(e:Di s)(r:∀t∈l,Av t)(y:l.length<=65536)(a:Ds s l=true):Av (AF s l):=by
 unfold Ds at a;simp only[Bool.and_eq_true,decide_eq_true_eq]at a;obtain⟨⟨u,z⟩,c⟩:=a;obtain⟨w,p,v,q,h⟩:=CU.1 u;have x:=Gw w;have f:∀t∈l.drop (l.length-Hn s),Av t:=fun t b=>r t (List.mem_of_mem_drop b);unfold AF CF at c|-;split
 .simp[Av]
 .split
  .simp[Av]
  .split
   .simp only[Av];exact Tm e.bits (p (by assumption))
   .split
    .rename_i i j k m;rw[Qs i,Qs j,Qs k,Qr m]at c;simp only[Av];refine⟨v, ?_⟩;have:=(Ar c).2.1;simpa[Ag]using this
    .split
     .simp only[Av];exact Cu.2 f
     .rename_i n;have o:s.count=0:=Decidable.byContradiction fun g=>n (x.2.2.2.2.2.2.1 g);have d:s.keys.length=(l.drop (l.length-Hn s)).length:=by rw[Qm];unfold Hn at*;rw[o]at*;simp at*;omega
      unfold D1;simp only[Av];refine⟨KY (List.all_eq_true.1 q) e.size (by rw[d,Qm];omega) h,by rw[A3,DD],Cu.2 fun t b=>f t ((Ku h d).mem_iff.1 b)⟩
theorem WA{l:List Ap}(c:∀s∈l,Di s):∀{row r:List Tr},(∀t∈row,Av t)->row.length+l.length<=65536->DS row l=nM r->∀t∈r,Av t:=by
 induction l with
 |nil=>intro row r b _ h;simp[DS]at h;subst h;exact b
 |cons s l i=>
  intro row r b d h;simp only[DS]at h;split at h
  .rename_i f;refine i (fun x g=>c x (by simp[g])) (fun t e=> ?_) ?_ h
   .unfold NW at e;rcases Qf.1 e with a|a
    .exact b t (List.mem_of_mem_take a)
    .simp at a;subst a;exact UY (c s Zh) b (by simp at d;omega) f
   .have:=LY (l:=row) (s:=s);simp at d;omega
  .cases h
theorem SW{l:List Ap}(a:∀s∈l,Di s)(b:l.length<=65536){t:Tr}(h:CA l=nM t):Av t:=by
 unfold CA at h;split at h
 .rename_i r c;injection h with h
  subst h;exact WA a (row:=[]) (fun t d=>by cases d) (by simpa using b) c _ Zh
 .cases h
end
section
open _root_.Go.Proofs.Tryz
open Go Go.RowKit Tree
variable{p:Prop}
theorem D2(w b:Wl)(a:Act)(n:Int)(B:Nat)(i:a.defers=[{target:= .fn (.func 62) #[nP (nM ⟨B,0,nN⟩)],args:=#[]}])(g:a.tmps.getD 4 undef= nP (nM ⟨B,0,nN⟩))(d:Ac b B [.nilIface] 35)(j:Chg w b [])(k:w.heap.size<=B):
  bodyPostD prog f38 (Fc w) (.panic [{v:= nF 70 (nI nX n),recovered:=false}]) a b:=by
 show Leaves _ _ a.tmps _ a.defers (.panicking _) b
 rw[i];refine leaves_cons (f:=62) (args:=#[nP (nM ⟨B,0,nN⟩)]) Zh (by simp[go_sem]) ?_;refine(Lp ⟨B,0,nN⟩ .nilIface n b (d.cell 0) (d.frozen 0)).mono ?_;rintro e l m ⟨rfl,rfl,rfl⟩;have c:=(d.set 0 (nF 70 (nI nX n))).cell 0;simp only[List.set_cons_zero,Qa]at c;refine⟨nF 70 (nI nX n), ?_,⟨n,rfl⟩,j.setCell _ _ (by simp only;omega)⟩;have h:a.tmps[4]?.getD undef= nP (nM ⟨B,0,nN⟩):=by simpa using g
 simp[results,results38,go_sem,h,c]
theorem uV{F d:Nat->Prop}{T:Ti}{b B:Nat}{sv:Vl}{l m:List Tr}{vs:List Vl}{w h i:Wl}{a:Act}(j:C3 w F T b sv l vs)(u:a.defers=[{target:= .fn (.func 62) #[nP (nM ⟨B,0,nN⟩)],args:=#[]}])(p:a.tmps.getD 4 undef= nP (nM ⟨B,0,nN⟩))(r:Ac i B [.nilIface] 35)(n:Chg w h [])(o:FZ d T b sv m h i)(s:∀k,F k->d k)(t:∀k,d k->k<w.heap.size->F k)(x:w.heap.size<=B)(y:B<h.heap.size)(z:¬d B):
  bodyPostD prog f38 (Cx F T b sv m w) .ret a (i.setCell ⟨B,0,nN⟩ .nilIface):=by
 show Leaves _ _ a.tmps _ a.defers _ _
 rw[u];refine leaves_cons (f:=62) (args:=#[nP (nM ⟨B,0,nN⟩)]) Zh (by simp[go_sem]) ?_;refine(DZ ⟨B,0,nN⟩ _).mono ?_;rintro e A C ⟨rfl,rfl,rfl⟩;have c:=(r.set 0 .nilIface).cell 0;simp only[List.set_cons_zero,Qa]at c;have q:a.tmps[4]?.getD undef= nP (nM ⟨B,0,nN⟩):=by simpa using p
 simp[Leaves,settle,results,results38,go_sem,q,c];exact DA n o s t j.blk.lt (fun g v=>j.lst.lt v) _ x y z _
theorem Cm(w:Wl)(cs:List Vl)(T:Ti):∀j v,cs[j]? =nM v->(w.alloc (nC cs.toArray T)).cell? ⟨w.heap.size,j,nN⟩=nM v:=fun j v a=>by
 rw[(Ac.new w cs T).cell,a]
def Fz(l:List SA)(w:Wl)(e:Ending)(w':Wl):Prop:=
 (∃v,e= nR v/\As w' v 7 l.length (CQ (Hl Prod.fst l)))/\Chg w w' []
theorem zZ(h:p:=by intro u O;simp only[Qh,List.not_mem_nil,or_false]at O;rcases O with rfl|rfl|rfl|rfl|rfl|rfl|rfl<;>rfl):p:=h
theorem ya(h:p:=by
 simp[Vl.ownBlock]at M;subst M;rcases Z.o with h|h
 .exact S.o _ h
 .simp at h;omega):p:=h
theorem yb(h:p:=by rw[Qk,EM,Bm,show CQ []=[]from rfl,List.append_nil];exact aa.o):p:=h
theorem yh(h:p:=by exact Cm _ _ _):p:=h
theorem yk(h:p:=by have:=aB.o 0 (nG y.1) rfl;rwa[Nat.add_zero]at this):p:=h
theorem ym(h:p:=by have:=aA.o 0 (nG x.1) rfl;rwa[Nat.add_zero]at this):p:=h
theorem yo(h:p:=by exact(HO.o.kept F.o).kept (bs:=[]) yc Zh):p:=h
theorem yq(h:p:=by unfold Hid;rw[(C.o y Zh).length];exact It):p:=h
theorem yr(h:p:=by unfold Hid;rw[(z.o x Zh).length];exact It):p:=h
theorem RR(N:Nat):∀(l:List SA) (sl:Vl) (w:Wl),l.length<=N->As w sl 7 l.length (CQ l)->(∀p∈l,Fy p)->(l.map Prod.fst).Nodup->l.length<=4294967296->
  Cl prog 121 #[sl] w (Fz l w):=by
 induction N using Nat.strongRecOn with
 |_ N ih=> ?_
 intro ks sl w hN hR hk bo hl;obtain⟨a,c,rfl,bF,_⟩:=hR.form;have HR:=hZ hR;have HK:=hZ hk;have a9:=hZ ih;have aX:=hZ bo;clear hR hk ih bo;by_cases d:ks.length<2
 .have bp:Hl Prod.fst ks=ks:=by
   match ks,d with
   |[],_=>exact Uw _
   |[x],_=>exact Ux _ x
  have HS:=hZ bp;clear bp;have bK:(ks.length:Int)<2:=Zj;go_enter func121,ntmps121;go_wp2_with fail;go_ret;exact⟨⟨_,rfl,by rw[HS.o];exact HR.o⟩,Chg.refl _ _⟩
 .obtain⟨b,o,rfl,_⟩:=HR.o.base Zj ZM;have bv:(ks.length:Int)/2=((ks.length/2:Nat):Int):=Zj;obtain⟨h,hh⟩:=Ue (ks.length/2);rw[<-hh]at bv;have bI:h<ks.length:=Zj;have bJ:1<=h:=Zj;have a7:=HR.o.head h Zj;have aP:=HR.o.tail h (ks.length-h) (c-h) Zj Zj;rw[Va HK.o]at a7;rw[Ok HK.o]at aP;simp only[Option.map_some,FB]at aP;have aR:(ks.take h).length=h:=by rw[Ql];omega
  have aU:(ks.drop h).length=ks.length-h:=by rw[Qm]
  have ba:Hid (∀w',Chg w w' []->Cl prog 121 #[nS (nM ⟨b,o,nN⟩) h c] w' (Fz (ks.take h) w')):=fun w' hc=>
   a9.o h Zj (ks.take h) _ w' Zj (by rw[aR];exact a7.kept hc) (fun s d=>HK.o s (List.mem_of_mem_take d)) (by rw[List.map_take];exact aX.o.sublist (List.take_sublist _ _)) Zj
  have bb:Hid (∀w',Chg w w' []->Cl prog 121 #[nS (nM ⟨b,o+h*7,nN⟩) (ks.length-h) (c-h)] w' (Fz (ks.drop h) w')):=fun w' hc=>
   a9.o (ks.length-h) Zj (ks.drop h) _ w' Zj (by rw[aU];exact aP.kept hc) (fun s d=>HK.o s (List.mem_of_mem_drop d)) (by rw[List.map_drop];exact aX.o.sublist (List.drop_sublist _ _)) Zj
  have bj:∀a∈ks.take h++ks.drop h,∀b∈ks.take h++ks.drop h,a.1=b.1->a=b:=by
   rw[List.take_append_drop];intro a ha b hb e;obtain⟨i,hi,rfl⟩:=List.mem_iff_getElem.1 ha;obtain⟨j,hj,rfl⟩:=List.mem_iff_getElem.1 hb;have:=(List.getElem?_inj (l:=ks.map Prod.fst) (j:=j) (by simpa using hi) aX.o).1 (by simp[hi,hj,e]);subst this;rfl
  have HS:Hid (List.merge (Hl Prod.fst (ks.take h)) (Hl Prod.fst (ks.drop h)) (Hp Prod.fst)=Hl Prod.fst ks):=by unfold Hid;rw[OG _ _ _ bj,List.take_append_drop]
  have aC:Hid ((Hl Prod.fst (ks.take h)).length=h/\(Hl Prod.fst (ks.drop h)).length=ks.length-h):=by unfold Hid;rw[Jt,Jt,aR,aU];exact⟨rfl,rfl⟩
  have bd:Hid (∀s∈Hl Prod.fst (ks.take h),Fy s):=fun s d=>HK.o s (List.mem_of_mem_take ((Ka Prod.fst).1 d));have be:Hid (∀s∈Hl Prod.fst (ks.drop h),Fy s):=fun s d=>HK.o s (List.mem_of_mem_drop ((Ka Prod.fst).1 d));have bc:=hZ aR;have bf:=hZ aU;clear a7 aP aR aU hh d bj;have q1:h<=c:=Zj;have q2:(h:Int)<=(c:Int):=Zj;have q3:¬c=h:=Zj;have q4:h<c:=Zj;have z1:IntKind.i64.wrap (h:Int)=(h:Int):=IntWalk.i64_in _ Zj;have z2:(0:Int)<=(h:Int):=Zj;have q5:(h:Int)<=(ks.length:Int):=Zj;go_enter func121,ntmps121;go_upto_region 3 with(fail);go_cut [3,4]from 10 to 21 (fun s3 s4 wx=>As wx s3 7 h (CQ (Hl Prod.fst (ks.take h)))/\As wx s4 7 (ks.length-h) (CQ (Hl Prod.fst (ks.drop h)))/\Chg w wx [])
  case first=>
   go_region_with(first
    |(go_at_call_of 121 (Vl.slice (nM ⟨b,o,nN⟩) h c);refine(ba.o _ (by first|exact(Chg.refl w []).drew|exact((Chg.refl w []).drew).trans aQ)).mono ?_;rintro e U ⟨⟨v1,rfl,a1⟩,R⟩;rw[bc.o]at a1)
    |(go_at_call 121;refine(bb.o _ (by first|exact(Chg.refl w []).drew|exact((Chg.refl w []).drew).trans R)).mono ?_;rintro e w2 ⟨⟨v2,rfl,a2⟩,aQ⟩;rw[bf.o]at a2))
   all_goals(go_wp2_with fail;go_meet)
   all_goals first
    |exact⟨a1.kept aQ,a2,(((Chg.refl w []).drew).trans R).trans aQ⟩
    |exact⟨a1,a2.kept R,(((Chg.refl w []).drew).trans aQ).trans R⟩
  case rest=>
   obtain⟨aF,aG,k⟩:=hcut;have HG:=hZ k;obtain⟨V,bq⟩:=Ue wc;rw[<-bq]at HG aF aG|-;obtain⟨A,hA⟩:=Ue (Hl Prod.fst (ks.take h));obtain⟨B,hB⟩:=Ue (Hl Prod.fst (ks.drop h));rw[<-hA]at aF HS bd aC;rw[<-hB]at aG HS be aC;clear k bq hA hB ba bb bc bf;obtain⟨a3,c3,rfl,bG,_⟩:=aF.form;obtain⟨a4,c4,rfl,bH,_⟩:=aG.form;have bt:=hZ aF;have bu:=hZ aG;clear aF aG;go_wp2_with fail
   go_loopw [3,4,5] (fun v3 v4 v5 wr=>∃(X Y f:List SA),As V v3 7 X.length (CQ X)/\As V v4 7 Y.length (CQ Y)/\Ba wr v5 228 7 f.length (CQ f)/\Chg V wr []/\(∀g,v5.ownBlock=nM g->V.heap.size<=g)/\
     f++List.merge X Y (Hp Prod.fst)=Hl Prod.fst ks/\X.length+Y.length+f.length=ks.length/\(∀s∈X,Fy s)/\(∀s∈Y,Fy s)) (fun v3 v4 _ _=>LD v3+LD v4)
   case atStart=>exact⟨A,B,[],by rw[aC.o.1];exact bt.o,by rw[aC.o.2];exact bu.o,Ba.nil _ _ _,Chg.refl _ _,fun g k=>(by cases k),HS.o,by rw[aC.o.1,aC.o.2];simp;omega,bd.o,be.o⟩
   case round=>
    obtain⟨E,rfl⟩:=Ue wr;obtain⟨X,Y,f,hX,hY,hO,k,ho,D,T,bk,bl⟩:=hrel;obtain⟨a5,c5,rfl,aH,_⟩:=hX.form;obtain⟨a6,c6,rfl,aI,_⟩:=hY.form;have HX:=hZ hX;have HY:=hZ hY;have HO:=hZ hO;have t:=hZ k;have S:=hZ ho;have HM:=hZ D;have z:=hZ bk;have C:=hZ bl;clear hX hY hO k ho D bk bl;match X,Y with
    |[],[]=>
     have bi:f=Hl Prod.fst ks:=by have:=HM.o;simpa using this
     have HF:=hZ bi;have br:=UD (f.length=ks.length) (by simpa using T);clear bi;go_wp2_with fail;go_ret;refine⟨⟨_,rfl, ?_⟩,HG.o.trans t.o⟩;have h1:=HO.o.rowC (D4 (fun p hp=>HK.o p ((Ka Prod.fst).1 (HF.o▸hp))));rw[br.o,HF.o]at h1;exact h1
    |[],y::H=>
     have ab:Hid (f++[y]++List.merge [] H (Hp Prod.fst)=Hl Prod.fst ks):=by unfold Hid;rw[<-HM.o,FP,FP];simp
     obtain⟨J,Q,rfl,aK⟩:=HY.o.base Zh ZM;have aB:Hid (E.rangeAt J Q (CX y)):=fun j v n=>t.o.keeps (aK j v (by rw[Bm,List.getElem?_append_left (Qc.1 n).1];exact n));have aW:Hid ((prog.info? 228).map (·.size)=nM (CX y).length):=yq
     obtain⟨kY,ax,ag,ae,az,ap,av,ar,aj,an,al,eY⟩:=C.o y Zh;have aE:Hid (CX y=[nG y.1,nI nX ax,.bool ag,nI .u64 ae,nG az,nS ap av ar,nS aj an al]):=by unfold Hid CX;rw[eY];rfl
     have aZ:Hid ((CX y).toArray=#[nG y.1,nI nX ax,.bool ag,nI .u64 ae,nG az,nS ap av ar,nS aj an al]):=by unfold Hid;rw[aE.o]
     have bx:E.cell? ⟨J,Q,nN⟩=nM (nG y.1):=yk
     clear eY aK;simp only[List.length_nil,Qj]at T aH aI|-;have bn:f.length<=4294967296:=Zj;obtain⟨m,D⟩:=Ue (H.length+1);have aO:Hid (As V (nS (nM ⟨J,Q,nN⟩) m c6) 7 m (CX y++CQ H)):=by rw[D,<-Bm];exact HY.o
     have aN:=hZ D;rw[<-D]at T aI|-;have bz:((m:Int)==0)=false:=yg
     have bA:(0:Int)<(m:Int):=Zj;have bB:m<=4294967297:=Zj;have a8:0<m:=Zj;have bE:decide (0<m)=true:=decide_eq_true a8;clear D;rcases Decidable.em (c6=1)with ah|ah
     all_goals
      go_wp2_with fail;go_quiet(fail)
      go_wp2_with(first
        |(refine wpList_load_mid rfl _ _ rfl J Q ZN (CX y) _ (by exact aB.o) underlying228 rfl aW.o ?_;rw[aZ.o])
        |(at_builtin;go_loud(refine Bg rfl _ _ _ rfl 228 V6 7 104 ZM underlying226 Ic rfl u5 f.length (CQ f) ZN (by exact HO.o.kept (bs:=[]) yc Zh) E.heap.size [nG y.1,nI nX ax,.bool ag,nI .u64 ae,nG az,nS ap av ar,nS aj an al] ZN ZN yh zZ Zj Zj ?_;intro g a0 w3 r K L;rw[<-aE.o]at r;have aa:=hZ r;have W:=hZ K;have Z:=hZ L;clear r K L)))
      go_roundw
      case rel=>
       have z1:=t.o.size;have e1:=aN.o;refine⟨[],H,f++[y],HX.o,(by first|(refine aO.o.nextZ _ ?_ ?_ ?_ ?_<;>(first|exact(C.o y Zh).length|omega))|(refine Ei ?_ ?_ ?_<;>(first|omega|(rw[D4 (fun s d=>C.o s (by simp[d]))];omega)))),yb,Chg.own (sv:= nS nN 0 0) (by exact cg t.o) W.o (fun g k=>by cases k) (fun g k=> .inr (S.o g k)),fun g' M=> ?_,by rw[<-ab.o],by rw[Qk];simp only[List.length_nil,Qj];omega,z.o,(fun s d=>C.o s (by simp[d]))⟩;exact ya
      case measure=>simp[LD];omega
    |x::G,[]=>
     have ab:Hid (f++[x]++List.merge G [] (Hp Prod.fst)=Hl Prod.fst ks):=by unfold Hid;rw[<-HM.o,FQ,FQ];simp
     obtain⟨I,P,rfl,aJ⟩:=HX.o.base Zh ZM;have aA:Hid (E.rangeAt I P (CX x)):=fun j v n=>t.o.keeps (aJ j v (by rw[Bm,List.getElem?_append_left (Qc.1 n).1];exact n));have aV:Hid ((prog.info? 228).map (·.size)=nM (CX x).length):=yr
     obtain⟨kX,aw,af,ad,ay,ao,au,aq,ai,am,ak,eX⟩:=z.o x Zh;have aD:Hid (CX x=[nG x.1,nI nX aw,.bool af,nI .u64 ad,nG ay,nS ao au aq,nS ai am ak]):=by unfold Hid CX;rw[eX];rfl
     have aY:Hid ((CX x).toArray=#[nG x.1,nI nX aw,.bool af,nI .u64 ad,nG ay,nS ao au aq,nS ai am ak]):=by unfold Hid;rw[aD.o]
     have bw:E.cell? ⟨I,P,nN⟩=nM (nG x.1):=ym
     clear eX aJ;simp only[List.length_nil,Qj]at T aH aI|-;have bn:f.length<=4294967296:=Zj;obtain⟨m,D⟩:=Ue (G.length+1);have aM:Hid (As V (nS (nM ⟨I,P,nN⟩) m c5) 7 m (CX x++CQ G)):=by rw[D,<-Bm];exact HX.o
     have aL:=hZ D;rw[<-D]at T aH|-;have bz:((m:Int)==0)=false:=yg
     have bA:(0:Int)<(m:Int):=Zj;have bB:m<=4294967297:=Zj;have a8:0<m:=Zj;have bE:decide (0<m)=true:=decide_eq_true a8;clear D;rcases Decidable.em (c5=1)with ah|ah
     all_goals
      go_wp2_with fail;go_quiet(fail)
      go_wp2_with(first
        |(refine wpList_load_mid rfl _ _ rfl I P ZN (CX x) _ (by exact aA.o) underlying228 rfl aV.o ?_;rw[aY.o])
        |(at_builtin;go_loud(refine Bg rfl _ _ _ rfl 228 V6 7 104 ZM underlying226 Ic rfl u5 f.length (CQ f) ZN (by exact HO.o.kept (bs:=[]) yc Zh) E.heap.size [nG x.1,nI nX aw,.bool af,nI .u64 ad,nG ay,nS ao au aq,nS ai am ak] ZN ZN yh zZ Zj Zj ?_;intro g a0 w3 r K L;rw[<-aD.o]at r;have aa:=hZ r;have W:=hZ K;have Z:=hZ L;clear r K L)))
      go_roundw
      case rel=>
       have z1:=t.o.size;have e1:=aL.o;refine⟨G,[],f++[x],(by first|(refine aM.o.nextZ _ ?_ ?_ ?_ ?_<;>(first|exact(z.o x Zh).length|omega))|(refine Ei ?_ ?_ ?_<;>(first|omega|(rw[D4 (fun s d=>z.o s (by simp[d]))];omega)))),HY.o,yb,Chg.own (sv:= nS nN 0 0) (by exact cg t.o) W.o (fun g k=>by cases k) (fun g k=> .inr (S.o g k)),fun g' M=> ?_,by rw[<-ab.o],by rw[Qk];simp only[List.length_nil,Qj];omega,(fun s d=>z.o s (by simp[d])),C.o⟩;exact ya
      case measure=>simp[LD];omega
    |x::G,y::H=>
     obtain⟨I,P,rfl,aJ⟩:=HX.o.base Zh ZM;have aA:Hid (E.rangeAt I P (CX x)):=fun j v n=>t.o.keeps (aJ j v (by rw[Bm,List.getElem?_append_left (Qc.1 n).1];exact n));have aV:Hid ((prog.info? 228).map (·.size)=nM (CX x).length):=yr
     obtain⟨kX,aw,af,ad,ay,ao,au,aq,ai,am,ak,eX⟩:=z.o x Zh;have aD:Hid (CX x=[nG x.1,nI nX aw,.bool af,nI .u64 ad,nG ay,nS ao au aq,nS ai am ak]):=by unfold Hid CX;rw[eX];rfl
     have aY:Hid ((CX x).toArray=#[nG x.1,nI nX aw,.bool af,nI .u64 ad,nG ay,nS ao au aq,nS ai am ak]):=by unfold Hid;rw[aD.o]
     have bw:E.cell? ⟨I,P,nN⟩=nM (nG x.1):=ym
     clear eX aJ;obtain⟨J,Q,rfl,aK⟩:=HY.o.base Zh ZM;have aB:Hid (E.rangeAt J Q (CX y)):=fun j v n=>t.o.keeps (aK j v (by rw[Bm,List.getElem?_append_left (Qc.1 n).1];exact n));have aW:Hid ((prog.info? 228).map (·.size)=nM (CX y).length):=yq
     obtain⟨kY,ax,ag,ae,az,ap,av,ar,aj,an,al,eY⟩:=C.o y Zh;have aE:Hid (CX y=[nG y.1,nI nX ax,.bool ag,nI .u64 ae,nG az,nS ap av ar,nS aj an al]):=by unfold Hid CX;rw[eY];rfl
     have aZ:Hid ((CX y).toArray=#[nG y.1,nI nX ax,.bool ag,nI .u64 ae,nG az,nS ap av ar,nS aj an al]):=by unfold Hid;rw[aE.o]
     have bx:E.cell? ⟨J,Q,nN⟩=nM (nG y.1):=yk
     clear eY aK;simp only[List.length_nil,Qj]at T aH aI|-;have bn:f.length<=4294967296:=Zj;obtain⟨m1,aS⟩:=Ue (G.length+1);have aM:Hid (As V (nS (nM ⟨I,P,nN⟩) m1 c5) 7 m1 (CX x++CQ G)):=by rw[aS,<-Bm];exact HX.o
     have aL:=hZ aS;rw[<-aS]at T aH|-;have bL:((m1:Int)==0)=false:=yg
     have bN:(0:Int)<(m1:Int):=Zj;have bP:m1<=4294967297:=Zj;have bC:0<m1:=Zj;have bR:decide (0<m1)=true:=decide_eq_true bC;clear aS;obtain⟨m2,aT⟩:=Ue (H.length+1);have aO:Hid (As V (nS (nM ⟨J,Q,nN⟩) m2 c6) 7 m2 (CX y++CQ H)):=by rw[aT,<-Bm];exact HY.o
     have aN:=hZ aT;rw[<-aT]at T aI|-;have bM:((m2:Int)==0)=false:=yg
     have bO:(0:Int)<(m2:Int):=Zj;have bQ:m2<=4294967297:=Zj;have bD:0<m2:=Zj;have bS:decide (0<m2)=true:=decide_eq_true bD;clear aT;have HC:=hZ fun w=>MN x.1 y.1 w kX.2 kY.2 kX.1 kY.1;clear kX kY;obtain⟨q,hq⟩:=Ue (Utf.BK x.1 y.1);rw[<-hq]at HC;by_cases bm:q<=0
     .have ab:Hid (f++[x]++List.merge G (y::H) (Hp Prod.fst)=Hl Prod.fst ks):=by unfold Hid;rw[<-HM.o,Mj Prod.fst (by rw[<-hq];exact bm)];simp
      clear hq;rcases Decidable.em (c5=1)with ah|ah
      all_goals
       go_wp2_with fail;go_still_tail 16,Yb
       go_wp2_with(first
        |(go_at_call 154;refine(HC.o _).mono ?_;rintro e U ⟨rfl,R⟩;have F:=hZ ((Chg.refl E []).drew.trans R);have bg:Hid (U.rangeAt I P (CX x)):=(fun j v n=>F.o.keeps (aA.o j v n));have bh:Hid (U.rangeAt J Q (CX y)):=(fun j v n=>F.o.keeps (aB.o j v n));clear R)
        |(refine wpList_load_mid rfl _ _ rfl I P ZN (CX x) _ (by exact bg.o) underlying228 rfl aV.o ?_;rw[aY.o])
        |(at_builtin;go_loud(refine Bg rfl _ _ _ rfl 228 V6 7 104 ZM underlying226 Ic rfl u5 f.length (CQ f) ZN yo U.heap.size [nG x.1,nI nX aw,.bool af,nI .u64 ad,nG ay,nS ao au aq,nS ai am ak] ZN ZN yh zZ Zj Zj ?_;intro g a0 w3 r K L;rw[<-aD.o]at r;have aa:=hZ r;have W:=hZ K;have Z:=hZ L;clear r K L)))
       go_roundw
       case rel=>
        have z1:=t.o.size;have z2:=F.o.size;have e1:=aL.o;have e2:=aN.o;refine⟨G,(y::H),f++[x],(by first|(refine aM.o.nextZ _ ?_ ?_ ?_ ?_<;>(first|exact(z.o x Zh).length|omega))|(refine Ei ?_ ?_ ?_<;>(first|omega|(rw[D4 (fun s d=>z.o s (by simp[d]))];omega)))),(by rw[Qj,<-e2,Bm];exact aO.o),yb,Chg.own (sv:= nS nN 0 0) (by exact cg (t.o.trans F.o)) W.o (fun g k=>by cases k) (fun g k=> .inr (S.o g k)),fun g' M=> ?_,by rw[<-ab.o],by rw[Qk];simp only[List.length_nil,Qj];omega,(fun s d=>z.o s (by simp[d])),C.o⟩;exact ya
       case measure=>simp[LD];omega
     .have ab:Hid (f++[y]++List.merge (x::G) H (Hp Prod.fst)=Hl Prod.fst ks):=by unfold Hid;rw[<-HM.o,K9 Prod.fst (by rw[<-hq];exact bm)];simp
      clear hq;rcases Decidable.em (c6=1)with ah|ah
      all_goals
       go_wp2_with fail;go_still_tail 16,Yb
       go_wp2_with(first
        |(go_at_call 154;refine(HC.o _).mono ?_;rintro e U ⟨rfl,R⟩;have F:=hZ ((Chg.refl E []).drew.trans R);have bg:Hid (U.rangeAt I P (CX x)):=(fun j v n=>F.o.keeps (aA.o j v n));have bh:Hid (U.rangeAt J Q (CX y)):=(fun j v n=>F.o.keeps (aB.o j v n));clear R)
        |(refine wpList_load_mid rfl _ _ rfl J Q ZN (CX y) _ (by exact bh.o) underlying228 rfl aW.o ?_;rw[aZ.o])
        |(at_builtin;go_loud(refine Bg rfl _ _ _ rfl 228 V6 7 104 ZM underlying226 Ic rfl u5 f.length (CQ f) ZN yo U.heap.size [nG y.1,nI nX ax,.bool ag,nI .u64 ae,nG az,nS ap av ar,nS aj an al] ZN ZN yh zZ Zj Zj ?_;intro g a0 w3 r K L;rw[<-aE.o]at r;have aa:=hZ r;have W:=hZ K;have Z:=hZ L;clear r K L)))
       go_roundw
       case rel=>
        have z1:=t.o.size;have z2:=F.o.size;have e1:=aL.o;have e2:=aN.o;refine⟨(x::G),H,f++[y],(by rw[Qj,<-e1,Bm];exact aM.o),(by first|(refine aO.o.nextZ _ ?_ ?_ ?_ ?_<;>(first|exact(C.o y Zh).length|omega))|(refine Ei ?_ ?_ ?_<;>(first|omega|(rw[D4 (fun s d=>C.o s (by simp[d]))];omega)))),yb,Chg.own (sv:= nS nN 0 0) (by exact cg (t.o.trans F.o)) W.o (fun g k=>by cases k) (fun g k=> .inr (S.o g k)),fun g' M=> ?_,by rw[<-ab.o],by rw[Qk];simp only[List.length_nil,Qj];omega,z.o,(fun s d=>C.o s (by simp[d]))⟩;exact ya
       case measure=>simp[LD];omega
def PR(F:Nat->Prop)(ks:List BY)(l:List Tr)(w:Wl)(e:Ending)(w':Wl):Prop:=
 ∃(a:Nat->Prop) (cs:List Vl),e= nR (nA cs.toArray)/\(∀k,F k->a k)/\(∀k,a k->k<w.heap.size->F k)/\(∀k,a k->k<w'.heap.size)/\AL w' a (D1 ks l) cs/\Chg w w' []
theorem TT{l:List SA}(h:∀p∈l,Fy p):(l.flatMap Prod.snd).length=l.length*6:=by
 induction l with
 |nil=>rfl
 |cons p l c=>
  have a:=(h p Zh).length;unfold CX at a;rw[List.flatMap_cons,Qk,c fun q b=>h q (by simp[b]),Qj];simp only[Qj]at a;omega
theorem Wx{cl:List (List Vl)}(b:∀c∈cl,c.length=6):∀(i:Nat) (c:List Vl),cl[i]? =nM c->∀(j:Nat) (v:Vl),c[j]? =nM v->cl.flatten[i*6+j]? =nM v:=by
 induction cl with
 |nil=>intro i c h;simp at h
 |cons d cl f=>
  intro i c h j v a;rw[List.flatten_cons];cases i with
  |zero=>
   simp at h;subst h;rw[Nat.zero_mul,Nat.zero_add,List.getElem?_append_left (Qc.1 a).1,a]
  |succ i=>
   have g:=b d Zh;rw[List.getElem?_append_right Zj,show(i+1)*6+j-d.length=i*6+j from by omega];exact f (fun c e=>b c (by simp[e])) i c (by simpa using h) j v a
theorem yj(h:p:=by have:=aF.o;have:=ay.o;omega):p:=h
theorem yn(h:p:=by simpa using r):p:=h
theorem Xz(F:Nat->Prop)(ks:List BY)(l:List Tr)(sk si:Vl)(vs:List Vl)(w:Wl)(hK:As w sk 1 ks.length (Ad ks))(hI:As w si 6 l.length vs)(hV:Aq w F l vs)(hF:∀b,F b->b<w.heap.size)(d:∀s∈ks,JA s)(bw:ks.Nodup)(hl:ks.length=l.length)(hn:ks.length<=65536):
  Cl prog 94 #[sk,si] w (PR F ks l w):=by
 obtain⟨ka,kc,rfl,bY,_⟩:=hK.form;obtain⟨ia,ic,rfl,cd,_⟩:=hI.form;obtain⟨cl,bl,bm,aD⟩:=hV.chunks;rw[<-hl]at hI|-;obtain⟨n,aV⟩:=Ue ks.length;rw[<-aV]at hK hI hn bY|-;have ce:n<=ic:=Zj;obtain⟨Z,an⟩:=Ue (ks.zip cl);have bi:Z.length=n:=by rw[an,List.length_zip];omega
 have bj:∀p∈Z,Fy p:=by
  intro p y;rw[an]at y;obtain⟨j,hj⟩:=List.mem_iff_getElem?.1 y;obtain⟨Q,B⟩:=List.getElem?_zip_eq_some.1 hj;have W:j<l.length:=by have:=(Qc.1 B).1;omega
  exact(aD j l[j] p.2 (Q9 W) B).mem (d _ (Qi Q))
 have bh:∀i,i<n->∃p:SA,Z[i]? =nM p/\ks[i]? =nM p.1/\cl[i]? =nM p.2:=by
  intro i hi;have:i<Z.length:=Zj;obtain⟨p,y⟩:∃p,Z[i]? =nM p:=⟨_,Q9 this⟩;refine⟨p,y, ?_⟩;rw[an]at y;exact List.getElem?_zip_eq_some.1 y
 have bp:∀i c,cl[i]? =nM c->∀j v,c[j]? =nM v->vs[i*6+j]? =nM v:=by
  rw[bl];refine Wx fun c hc=> ?_;obtain⟨j,hj⟩:=List.mem_iff_getElem?.1 hc;have W:j<l.length:=by have:=(Qc.1 hj).1;omega
  exact(aD j l[j] c (Q9 W) hj).length
 have HK:=hZ hK;have HI:=hZ hI;have HV:=hZ hV;have HF:=hZ hF;have a7:=hZ bw;have ae:=hZ bi;have aC:=hZ bj;have bV:=hZ bh;have HZ:=hZ an;have bJ:=hZ bp;have HN:=hZ aV;have aF:=hZ bm;have bI:=hZ aD;have ay:=hZ hl;have b7:=hZ d;have a8:=UD (Ac (w.alloc (nC (vC 0 false 0 ⟨#[]⟩ (nS nN 0 0) (nS nN 0 0)).toArray 29)) w.heap.size (vC 0 false 0 ⟨#[]⟩ (nS nN 0 0) (nS nN 0 0)) 29) (Ac.new w _ _);clear hK hI hV hF d bw bl bm aD an bj bh bi bp aV hl;go_enter func94,ntmps94;go_wp2_with fail;rw[<-Jy];obtain⟨w1,aE⟩:=Ue (w.alloc (nC (vC 0 false 0 ⟨#[]⟩ (nS nN 0 0) (nS nN 0 0)).toArray 29));rw[<-aE]at a8|-;have aH:Hid (Chg w w1 []):=by rw[aE];exact hZ ((Chg.refl w []).alloc _)
 have b5:w1.heap.size=w.heap.size+1:=by rw[aE];simp
 clear aE;go_loopw [5,6] (fun v5 v6 wr=>∃i:Nat,i<=n/\v6= nI nX i/\Ba wr v5 228 7 i (CQ (Z.take i))/\Chg w1 wr []/\(∀g,v5.ownBlock=nM g->w1.heap.size<=g)) (fun _ v6 _=>n-(intOf v6).toNat)
 case atStart=>exact⟨0,Zj,rfl,Ba.nil _ _ _,Chg.refl _ _,fun g a=>(by cases a)⟩
 case round=>
  obtain⟨wa,rfl⟩:=Ue wr;obtain⟨i,hi,rfl,hL,a,ho⟩:=hrel;have HL:=hZ hL;have HG:=hZ a;have HO:=hZ ho;clear hL a ho;by_cases W:i<n
  .obtain⟨p,aX,bA,bB⟩:=bV.o i W;have b0:=aC.o p (Qi aX);obtain⟨kb,ko,rfl,bu⟩:=HK.o.get (i:=i) (v:= nG p.1) (by simp[Ad,bA]);obtain⟨ib,io,rfl,bt⟩:=HI.o.base Zj ZM;have cf:=(aH.o.trans HG.o).keeps bu;obtain⟨_,O,G,E,P,L,N,M,I,K,J,ep⟩:=b0
   have U:∀j v,p.2[j]? =nM v->wa.cell? ⟨ib,io+i*6+j,nN⟩=nM v:=fun j v hv=>by
    rw[Nat.add_assoc];exact(aH.o.trans HG.o).keeps (bt _ v (bJ.o i p.2 bB j v hv))
   rw[ep]at U;have c0:=U 0 _ rfl;have c1:=U 1 _ rfl;have c2:=U 2 _ rfl;have c3:=U 3 _ rfl;have c4:=U 4 _ rfl;have c5:=U 5 _ rfl;rw[Nat.add_zero]at c0
   have bS:Hid (CQ (Z.take (i+1))=CQ (Z.take i)++[nG p.1,nI nX O,.bool G,nI .u64 E,nG P,nS L N M,nS I K J]):=by
    unfold Hid;rw[List.take_add_one,aX,EM];simp only[Option.toList_some,Bm,CX,ep,vC];simp[CQ]
   clear U bt bu ep aX bA bB;go_wp2_with fail
   go_region_law(first
    |(go_loud(refine Bw rfl _ _ _ rfl 228 V6 7 104 ZM underlying226 Ic rfl u5 i (CQ (Z.take i)) ZN (by exact HL.o.kept (bs:=[]) yc Zh) wa.heap.size [nG p.1,nI nX O,.bool G,nI .u64 E,nG P,nS L N M,nS I K J] ZN ZN yh (by intro u X;simp only[Qh,List.not_mem_nil,or_false]at X;rcases X with rfl|rfl|rfl|rfl|rfl|rfl|rfl<;>rfl) Zj Zj ?_;intro g b8 z aO a9 ba;rw[<-bS.o]at aO;have bN:=hZ aO;have bH:=hZ a9;have aJ:=hZ ba;clear aO a9 ba)))
   all_goals
    go_wp2_with fail;go_roundw
    case rel=>
     have z1:=HG.o.size;refine⟨i+1,Zj,by go_num,bN.o,Chg.own (sv:= nS nN 0 0) (by exact cg HG.o) bH.o (fun g a=>by cases a) (fun g a=> .inr (HO.o g a)),fun C f=> ?_⟩;simp[Vl.ownBlock]at f;subst f;rcases aJ.o with h|h
     .exact HO.o _ h
     .simp at h;omega
    case measure=>simp[intOf];omega
  .obtain rfl:i=n:=by omega
   have bD:Z.take i=Z:=Qn (Nat.le_of_eq ae.o);rw[bD]at HL;clear bD;obtain⟨a5,c5,rfl,bW⟩:=HL.o.form;have bC:=HL.o.rowC (by rw[D4 aC.o,ae.o]);have bF:(Z.map Prod.fst).Nodup:=by rw[HZ.o,List.map_fst_zip yj];exact a7.o
   have aK:Hid (∀w',Chg wa w' []->Cl prog 121 #[nS a5 i c5] w' fun e bG=>(∃v,e= nR v/\As bG v 7 i (CQ (Hl Prod.fst Z)))/\Chg w' bG []):=fun w' hc=>by
    have:=RR i Z (nS a5 i c5) w' (Nat.le_of_eq ae.o) (by rw[ae.o];exact bC.kept hc) aC.o bF (by have:=ae.o;omega);unfold Fz at this;rw[ae.o]at this;exact this
   obtain⟨S,hS⟩:=Ue (Hl Prod.fst Z);rw[<-hS]at aK;have bf:S.length=i:=by rw[hS,Jt];exact ae.o
   have bg:∀p∈S,Fy p:=fun p y=>by rw[hS]at y;exact aC.o p ((Ka Prod.fst).1 y)
   have HS:=hZ hS;have ak:=hZ bf;have aL:=hZ bg;clear hS bf bg bC bF bW;go_wp2_with(first|(go_at_call 121;refine(aK.o _ yc).mono ?_;rintro e z ⟨⟨v3,rfl,aR⟩,bq⟩;obtain⟨a6,c6,rfl,cb,_⟩:=aR.form;have bU:=hZ aR;have aJ:=hZ bq;clear aR bq));obtain⟨w4,ao⟩:=Ue (z.alloc (nC #[nI nX 6,.bool false,nI .u64 0,nG ⟨#[]⟩,nS nN 0 0,nS nN 0 0] 29));have HQ:Hid (Ac w4 z.heap.size (vC 6 false 0 ⟨#[]⟩ (nS nN 0 0) (nS nN 0 0)) 29):=by rw[ao];exact hZ (Ac.new z _ _)
   have bK:Hid (Chg z w4 []):=by rw[ao];exact hZ ((Chg.refl z []).alloc _)
   have aI:=UD (Chg w1 z []) (HG.o.trans aJ.o);have b2:w4.heap.size=z.heap.size+1:=by rw[ao];simp
   have b1:w1.heap.size<=z.heap.size:=aI.o.size;rw[<-ao];obtain⟨q,hq⟩:=Ue z.heap.size;rw[<-hq]at HQ b2 b1|-;have aB:=hZ hq;clear ao hq aK HL HO
   go_loopw [8] (fun v8 wr=>∃(j:Nat) (aq ap:Vl),j<=i/\v8= nI nX j/\Ac wr q (vC 6 false 0 ⟨#[]⟩ ap aq) 29/\AK wr aq 9 (Ad ((S.take j).map Prod.fst))/\Ba wr ap 29 6 j ((S.take j).flatMap Prod.snd)/\Chg z wr []/\
     (∀g,aq.ownBlock=nM g->q<g)/\(∀g,ap.ownBlock=nM g->q<g)/\(∀g,aq.ownBlock=nM g->ap.ownBlock=nM g->False)) (fun v8 _=>i-(intOf v8).toNat)
   case atStart=>exact⟨0,_,_,Zj,rfl,HQ.o,AK.nil _ _,Ba.nil _ _ _,bK.o,fun g a=>(by cases a),fun g a=>(by cases a),fun g a=>(by cases a)⟩
   case round=>
    obtain⟨wb,rfl⟩:=Ue wr;obtain⟨j,aq,ap,hj,rfl,hB,aQ,aP,a,bz,bx,bo⟩:=hrel;have HB:=hZ hB;have aA:=hZ aQ;have az:=hZ aP;have ad:=hZ a;have ag:=hZ bz;have af:=hZ bx;have aG:=hZ bo;obtain⟨xl,xf,x0,x1,x2,x3,x4,x5⟩:=hB.cells6;obtain⟨ar,au,rfl,_⟩:=aQ.form;obtain⟨Y,aa,rfl,_⟩:=aP.form;have aT:(Ad ((S.take j).map Prod.fst)).length=j:=by rw[Ao,List.length_map,Ql,ak.o];omega
    rw[aT]at aA x5 HB ag aG;have aw:=hZ aT;clear hB aQ aP a bz bx bo aT;by_cases W:j<i
    .obtain⟨p,y⟩:∃p,S[j]? =nM p:=⟨_,Q9 (by have:=ak.o;omega)⟩;obtain⟨bZ,O,G,E,P,L,N,M,I,K,J,ep⟩:=aL.o p (Qi y);obtain⟨b,o,rfl,V⟩:=bU.o.base Zj ZM
     have H:∀v m,(CX p)[m]? =nM v->(CQ S)[j*7+m]? =nM v:=fun v m hv=>by
      have Q:(CQ S).drop (j*7)=CQ (S.drop j):=Ok aL.o j
      have B:S.drop j=p::S.drop (j+1):=by
       obtain⟨a1,a2⟩:=Qc.1 y;rw[List.drop_eq_getElem_cons a1,a2]
      rw[<-List.getElem?_drop,Q,B,Bm,List.getElem?_append_left (Qc.1 hv).1];exact hv
     have bv:CX p=[nG p.1,nI nX O,.bool G,nI .u64 E,nG P,nS L N M,nS I K J]:=by unfold CX;rw[ep];rfl
     rw[bv]at H
     have bk:∀A,Chg z A []->A.cell? ⟨b,o+j*7,nN⟩=nM (nG p.1)/\A.cell? ⟨b,o+j*7+1,nN⟩=nM (nI nX O)/\A.cell? ⟨b,o+j*7+1+1,nN⟩=nM (.bool G)/\A.cell? ⟨b,o+j*7+1+2,nN⟩=nM (nI .u64 E)/\
       A.cell? ⟨b,o+j*7+1+3,nN⟩=nM (nG P)/\A.cell? ⟨b,o+j*7+1+4,nN⟩=nM (nS L N M)/\A.cell? ⟨b,o+j*7+1+5,nN⟩=nM (nS I K J):=fun A hx=>by
      simp only[Nat.add_assoc];exact⟨hx.keeps (V _ _ (H _ 0 rfl)),hx.keeps (V _ _ (H _ 1 rfl)),hx.keeps (V _ _ (H _ 2 rfl)),hx.keeps (V _ _ (H _ 3 rfl)),hx.keeps (V _ _ (H _ 4 rfl)),hx.keeps (V _ _ (H _ 5 rfl)),hx.keeps (V _ _ (H _ 6 rfl))⟩
     have aY:=hZ bk;have bM:Hid (Ad ((S.take (j+1)).map Prod.fst)=Ad ((S.take j).map Prod.fst)++[nG p.1]):=by unfold Hid;rw[List.take_add_one,y];simp[Ad]
     have bL:Hid ((S.take (j+1)).flatMap Prod.snd=(S.take j).flatMap Prod.snd++[nI nX O,.bool G,nI .u64 E,nG P,nS L N M,nS I K J]):=by unfold Hid;rw[List.take_add_one,y,List.flatMap_append];simp[ep,vC]
     have y0:=(aY.o wb ad.o).1;have bR:=UD (q∉(Vl.slice ar j au).ownBlock.toList) fun r=>by have:=ag.o q yn;omega
     have bQ:=UD (q∉(Vl.slice Y j aa).ownBlock.toList) fun r=>by have:=af.o q yn;omega
     clear bk bv H V ep y bZ;go_upto_region 11 with(fail)
     go_cut [36]from 30 to 55 (fun _ A=>∃D al,Ac A q (vC 6 false 0 ⟨#[]⟩ (nS Y j aa) (nS (nM ⟨D,0,nN⟩) (j+1) al)) 29/\AK A (nS (nM ⟨D,0,nN⟩) (j+1) al) 9 (Ad ((S.take (j+1)).map Prod.fst))/\
      Ba A (nS Y j aa) 29 6 j ((S.take j).flatMap Prod.snd)/\Chg z A []/\q<D/\((Vl.slice Y j aa).ownBlock=nM D->False))
     case first=>
      go_region_law(first
       |(go_loud(refine Df rfl _ _ _ rfl 9 Ho 16 underlying27 Cf rfl (nS ar j au) (Ad ((S.take j).map Prod.fst)) ZN (by exact aA.o.kept (bs:=[]) yc Zh) wb.heap.size (nG p.1) ZN yi rfl (by rw[aw.o];omega) (by rw[aw.o];omega) ?_;rw[aw.o];intro D al w9 T R ai;have ab:=hZ ((HB.o.alloc (nC #[nG p.1] 9)).drew.kept R bR.o);have e9:w9.cell? ⟨q,5,nN⟩=nM (nS ar j au):=ab.o.cell 5;have f9:∀j,w9.frozen? ⟨q,j,nN⟩=false:=(fun j=>ab.o.frozen j);have cm:=ab.o.lt;have ax:=hZ T;have a0:=hZ R;have aj:=hZ ai;clear T R ai)))
      all_goals(go_wp2_with fail;go_meet)
      all_goals
       have hz:=ad.o.size;have b3:=HB.o.lt
       have br:q<D:=by
        rcases aj.o with h|h
        .exact ag.o _ h
        .simp at h;omega
       have aM:Chg z w9 []:=Chg.own (sv:= nS nN 0 0) (by exact cg ad.o) a0.o (fun g a=>by cases a) (fun g a=> .inr (by have:=ag.o g a;have:=aB.o;omega));refine⟨D,al,(ab.o.set 5 _).eq rfl, ?_, ?_,aM.setCell _ _ (by simp only;have:=aB.o;omega),br, ?_⟩
       .rw[bM.o];exact ax.o.kept (bs:=[q]) ((Chg.refl _ _).setCell _ _ Zh) (fun C f r=>by simp[Vl.ownBlock]at f r;omega)
       .refine(((az.o.kept (bs:=[]) ((Chg.refl wb []).alloc (nC #[nG p.1] 9)).drew Zh).kept a0.o ?_).kept (bs:=[q]) ((Chg.refl _ _).setCell _ _ Zh) ?_)
        .exact fun C f r=>aG.o C yn f
        .exact fun C f r=>by have:=af.o C f;simp at r;omega
       .intro h';have B:=az.o.lt h';rcases aj.o with h|h
        .exact aG.o _ h h'
        .simp at h;omega
     case rest=>
      obtain⟨D,al,am,T,be,ai,br,bn⟩:=hcut;obtain⟨yl,yf,cn,y1,y2,y3,y4,y5⟩:=am.cells6;obtain⟨m0,m1,m2,m3,m4,m5,m6⟩:=aY.o wc ai;have ab:=hZ am;have ax:=hZ T;have bP:=hZ be;have aj:=hZ ai;have a3:=hZ bn;clear am T be ai bn y0 x0 x1 x2 x3 x4 x5 xf xl;go_upto_region 12 with(fail)
      go_region_law(first
       |(go_loud(refine Bw rfl _ _ _ rfl 29 NP 6 88 ZM underlying26 Dp rfl (nS Y j aa) j ((S.take j).flatMap Prod.snd) ZN (by exact bP.o.kept (bs:=[]) yc Zh) wc.heap.size [nI nX O,.bool G,nI .u64 E,nG P,nS L N M,nS I K J] ZN ZN yh (by intro u X;simp only[Qh,List.not_mem_nil,or_false]at X;rcases X with rfl|rfl|rfl|rfl|rfl|rfl<;>rfl) Zj Zj ?_;intro g8 b9 w8 bd aN bb;have av:=hZ ((ab.o.alloc (nC #[nI nX O,.bool G,nI .u64 E,nG P,nS L N M,nS I K J] 29)).drew.kept aN bQ.o);have e8:w8.cell? ⟨q,4,nN⟩=nM (nS Y j aa):=av.o.cell 4;have f8:∀j,w8.frozen? ⟨q,j,nN⟩=false:=(fun j=>av.o.frozen j);have ck:=av.o.lt;have bO:=hZ bd;have aZ:=hZ aN;have a4:=hZ bb;clear bd aN bb)))
      all_goals
       go_wp2_with fail;go_roundw
       case rel=>
        have hz:=ad.o.size;have b6:=aj.o.size;have b4:=aB.o;have b3:=ab.o.lt;have aM:Chg z w8 []:=Chg.own (sv:= nS nN 0 0) (by exact cg aj.o) aZ.o (fun g a=>by cases a) (fun g a=> .inr (by have:=af.o g a;omega))
        have cc:q<g8:=by
         rcases a4.o with h|h
         .exact af.o _ h
         .simp at h;omega
        have ch:g8≠D:=by
         intro he;rcases a4.o with h|h
         .exact a3.o (he▸h)
         .have:=ax.o.lt (g:=D) rfl;simp at h;omega
        refine⟨j+1,_,_,Zj,by go_num,(av.o.set 4 _).eq rfl, ?_, ?_,aM.setCell _ _ (by simp only;omega), ?_, ?_, ?_⟩
        .refine(((ax.o.kept (bs:=[]) ((Chg.refl wc []).alloc (nC #[nI nX O,.bool G,nI .u64 E,nG P,nS L N M,nS I K J] 29)).drew Zh).kept aZ.o ?_).kept (bs:=[q]) ((Chg.refl _ _).setCell _ _ Zh) ?_)
         .intro C f r;simp[Vl.ownBlock]at f;subst f;exact a3.o yn
         .intro C f r;simp[Vl.ownBlock]at f r;omega
        .rw[bL.o];exact bO.o.kept (bs:=[q]) ((Chg.refl _ _).setCell _ _ Zh) (fun C f r=>by simp[Vl.ownBlock]at f r;omega)
        .intro C f;simp[Vl.ownBlock]at f;omega
        .intro C f;simp[Vl.ownBlock]at f;omega
        .intro C Q B;simp[Vl.ownBlock]at Q B;omega
       case measure=>simp[intOf];omega
    .obtain rfl:j=i:=by omega
     have bE:S.take j=S:=Qn (Nat.le_of_eq ak.o);rw[bE]at aA az aw;have bT:=UD (Ac wb w.heap.size (vC 0 false 0 ⟨#[]⟩ (nS nN 0 0) (nS nN 0 0)) 29) ((a8.o.kept aI.o).kept ad.o);clear bE
     go_wp2_with(first
      |(refine Ae rfl _ _ _ rfl w.heap.size (vC 6 false 0 ⟨#[]⟩ (nS Y j aa) (nS ar j au)) ZN ZN _ _ bT.o A9 rfl (by intro u X;simp only[vC,Qh,List.not_mem_nil,or_false]at X;rcases X with rfl|rfl|rfl|rfl|rfl|rfl<;>rfl) ?_;intro w9 b6 am R))
     refine bodyPost_ret (uP am) rfl ?_;have ca:=R;have cj:=b5;have ci:=ad.o.size;have b4:=aB.o;have aS:Chg w w9 []:=((aH.o.trans aI.o).trans ad.o).step R (fun i hi W=>by simp at hi;omega);obtain⟨F',ah⟩:∃F':Nat->Prop,F'=fun k=>F k\/(w.heap.size<=k/\k<w9.heap.size):=⟨_,rfl⟩;have T:=aA.o.kept R (fun g a r=>by have:=ag.o g a;simp at r;omega);have bc:=az.o.kept R (fun g a r=>by have:=af.o g a;simp at r;omega);have bX:S.map Prod.fst=AY ks:=by rw[HS.o,HZ.o];exact Lk yj
     have aW:(LA ks l).length=j:=by rw[DD];exact HN.o.symm
     have aU:(AY ks).length=j:=by rw[A3];exact HN.o.symm
     refine⟨F',_,rfl,fun k d=>by rw[ah];exact .inl d,fun k d W=> ?_,fun k d=> ?_, ?_,aS⟩
     .rw[ah]at d;rcases d with d|d
      .exact d
      .omega
     .rw[ah]at d;rcases d with d|d
      .exact Q6 (HF.o k d) aS.size
      .exact d.2
     .unfold D1;simp only[AL];refine⟨Y,aa,ar,au,S.flatMap Prod.snd,by rw[aW,aU];rfl,by rw[aW,aU], ?_, ?_, ?_⟩
      .rw[aU,<-bX];refine T.rowAt fun g a=> ?_;rw[ah];have:=ag.o g a;have:=T.lt a;exact .inr ⟨Zj,Zj⟩
      .refine bc.rowN ?_ fun g a=> ?_
       .rw[TT aL.o,ak.o]
       .rw[ah];have:=af.o g a;have:=bc.lt a;exact .inr ⟨Zj,Zj⟩
      .rw[<-WW];refine Hb (by rw[List.length_map,ak.o,aW]) fun x t c Q B=> ?_;obtain⟨s,hs⟩:∃s,(AY ks)[x]? =nM s:=⟨_,Q9 (by have:=(Qc.1 Q).1;omega)⟩;obtain⟨t',g1,g2⟩:=Rp ay.o hs;rw[Q]at g2;injection g2 with g2
       subst g2;obtain⟨c',k1,k2⟩:=Sj (cl:=cl) a7.o yj hs;rw[<-HZ.o,<-HS.o]at k2;rw[List.getElem?_map,k2]at B;injection B with B
       subst B;exact AL.kept (aS.keepsF HF.o) (fun k d=>by rw[ah];exact .inl d) _ _ (bI.o _ _ _ g1 k1)
end
end Go.Proofs.YtamgbmcchhmojaaGreatDoor

/- Part 10 of the proof of coreBase. -/
import Derived.Deep.CutRange
import Derived.Laws.Bits64b
import Derived.Test.YtkfnkppdhcaeoaaGreatDoorM09
set_option maxRecDepth 100000
set_option maxHeartbeats 32000000
set_option linter.all false
namespace Go.Proofs.YtkfnkppdhcaeoaaGreatDoor
open Go renaming Calls->Cl,TypeId->Ti,Value->Vl,World->Wl
open Go.Value renaming agg->nA,iface->nF,int->nI,pointer->nP,slice->nS,string->nG
open Go.IntKind renaming i64->nX
open Go.Ending renaming returned->nR
open Go.Obj renaming cells->nC
open Option renaming none->nN,some->nM
section
open _root_.Go.Proofs.Tryz
open Go Go.RowKit Tree
theorem Ov(F:Nat->Prop)(sk:Vl)(ks:List BY)(w:Wl)(r:Ax w F sk (Ad ks))(f:∀s∈ks,s.size<=2147483648)(A:ks.length<=4294967296):
  Cl prog 163 #[sk] w fun e w'=>e= nR (.bool (ks.all Utf.Al))/\Chg w w' []:=by
 obtain⟨a,c,rfl,p⟩:=r.cell;have t:(Ad ks).length=ks.length:=by simp[Ad]
 rw[t];have u:=hZ p;have v:=hZ f;clear p f t r;go_enter func163,ntmps163
 go_wp2_with fail
 go_loopw [3] (fun m wr=>∃i:Nat,i<=ks.length/\m= nI nX i/\Chg w wr []/\(ks.take i).all Utf.Al=true) (fun m _=>ks.length-(intOf m).toNat)
 case atStart=>exact⟨0,Zj,rfl,by exact cg cR,rfl⟩
 case round=>
  obtain⟨i,hi,rfl,q,d⟩:=hrel;have g:=hZ q;have l:=hZ d;clear q d;by_cases x:i<ks.length
  .obtain⟨s,f⟩:∃s,ks[i]? =nM s:=⟨_,Q9 x⟩
   have j:s∈ks:=List.mem_iff_getElem?.2 ⟨i,f⟩;obtain⟨b,o,rfl,_,n⟩:=u.o i (nG s) (by simp[Ad,f]);have B:=g.o.keeps n;have h:=hZ (Ii s wr (v.o s j));have z:=hZ f;by_cases d:Utf.Al s=true
   .rw[d]at h
    have k:=UD ((ks.take (i+1)).all Utf.Al=true) (by rw[List.take_add_one,f,List.all_append,l.o];simp[d]);clear n f j d;go_wp2_with fail
    refine h.o.mono ?_;rintro e y ⟨rfl,rfl⟩;go_wp2_with fail
    go_roundw
    case rel=>exact⟨i+1,Zj,by go_num,g.o,k.o⟩
    case measure=>simp[intOf];omega
   .have d:Utf.Al s=false:=by simpa using d
    rw[d]at h
    have k:=UD (ks.all Utf.Al=false) (by
     rw[List.all_eq_false];exact⟨s,j,by simp[d]⟩)
    clear n f j d;go_wp2_with fail
    refine h.o.mono ?_;rintro e y ⟨rfl,rfl⟩;go_wp2_with fail
    go_ret
    exact⟨congrArg (fun b=>Ending.returned (.bool b)) k.o.symm,g.o⟩
  .obtain rfl:i=ks.length:=by omega
   rw[Qn (Q8 _)]at l;go_wp2_with fail
   go_ret
   exact⟨congrArg (fun b=>Ending.returned (.bool b)) l.o.symm,g.o⟩
theorem UU(b:Nat)(d:b<18446744073709551616):(bits .and .u64 ((b:Int)/4503599627370496) 2047 !=2047)=Fl.Fh b:=by
 have a:((b:Int)/4503599627370496)=((b/4503599627370496:Nat):Int):=Zj
 have c:(2047:Int)=((2047:Nat):Int):=rfl;rw[a,c,bits_and_u64_nat _ _ Zj ZM,show(2047:Nat)=2^11-1 from rfl,Nat.and_two_pow_sub_one_eq_mod];unfold Fl.Fh Fl.A7;rw[Bool.eq_iff_iff];simp;omega
theorem MM(b:Nat)(c:b<18446744073709551616)(w:Wl):
  Cl prog 161 #[nI .u64 b] w fun e w'=>e= nR (.bool (Fl.Fh b))/\Chg w w' []:=by
 have a:=hZ (UU b c);go_enter func161,ntmps161
 go_wp2
 go_ret
 exact⟨Bo a.o,Chg.refl _ _⟩
def JA(s:BY):Prop:=Utf.Al s=true/\s.size<=2147483648
theorem FV(l m:List BY):Ad (l++m)=Ad l++Ad m:=by simp[Ad]
theorem VN(l:List BY)(k:Nat):(Ad l).take k=Ad (l.take k):=by simp[Ad,List.map_take]
theorem VM(l:List BY)(k:Nat):(Ad l).drop k=Ad (l.drop k):=by simp[Ad,List.map_drop]
def Ja(ks:List BY)(w:Wl)(e:Ending)(w':Wl):Prop:=
 (∃v,e= nR v/\AK w' v 9 (Ad (AY ks))/\∀g,v.ownBlock=nM g->w.heap.size<=g)/\Chg w w' []
theorem TK(N:Nat):∀(ks:List BY) (sl:Vl) (w:Wl),ks.length<=N->As w sl 1 ks.length (Ad ks)->(∀s∈ks,JA s)->ks.length<=4294967296->
  Cl prog 194 #[sl] w (Ja ks w):=by
 induction N using Nat.strongRecOn with
 |_ N ih=> ?_
 intro ks sl w hN hR hk hl;obtain⟨a,c,rfl,aZ,_⟩:=hR.form;have HR:=hZ hR;have HK:=hZ hk;have az:=hZ ih;clear hR hk ih;by_cases i:ks.length<2
 .have ax:AY ks=ks:=by
   rw[VE]
   match ks,i with
   |[],_=>exact Uw _
   |[x],_=>exact Ux _ x
  by_cases h0:ks.length=0
  .have aP:ks=[]:=List.eq_nil_of_length_eq_zero h0
   subst aP;go_enter func194,ntmps194
   obtain⟨ti,aQ,_⟩:=info_parts Cf
   go_wp2_with(first
    |(at_builtin;refine A1 rfl _ _ _ rfl 9 ti underlying27 aQ _ 0 0 (Q8 _) ZN a c ZN ?_))
   go_ret
   exact⟨⟨_,rfl,by rw[ax];exact AK.lit _ [] _ 0 rfl ZM,fun g d=>by simp[Vl.ownBlock]at d;omega⟩,by exact cg cR⟩
  .have h1:ks.length=1:=by omega
   obtain⟨b,o,rfl,au⟩:=HR.o.base Zj ZM;have U:=hZ ax;clear ax i h0;have aK:Hid (∀j v,(Ad ks)[j]? =nM v->(w.alloc (nC #[] 9)).cell? ⟨b,o+j,nN⟩=nM v):=fun j v hv=>((Chg.refl w []).alloc _).keeps (au j v hv)
   go_enter func194,ntmps194
   go_wp2_with(first
    |(at_builtin;go_loud(refine Ip rfl _ _ _ rfl 9 Ho 16 underlying27 Cf rfl _ [] ZN (by exact AK.lit _ [] _ 0 rfl ZM) b o ks.length c (Ad ks) ZN Zj (by simp[Ad]) (by exact fun j v hv=>by exact aK.o j v hv) (by exact Gu ks) (by simp;omega) (by simp;omega) ?_;intro g am w3 aN r t)))
   go_ret
   refine⟨⟨_,rfl,by rw[U.o];exact aN.norm (by simp[h1]) rfl,fun g' n=> ?_⟩,Chg.own (sv:= nS nN 0 0) (by exact cg cR) r (fun g d=>by cases d) (fun g d=> .inr (by have:w.heap.size=g:=(by injection d);omega))⟩;simp[Vl.ownBlock]at n;subst n
   rcases t with h|h
   .have:w.heap.size=g:=by injection h
    omega
   .simp at h;omega
 .obtain⟨b,o,rfl,au⟩:=HR.o.base Zj ZM
  have aO:(ks.length:Int)/2=((ks.length/2:Nat):Int):=Zj
  obtain⟨h,hh⟩:=Ue (ks.length/2)
  rw[<-hh]at aO;have a2:h<ks.length:=Zj
  have a7:1<=h:=Zj
  have ar:=HR.o.head h Zj;have an:=HR.o.tail h (ks.length-h) (c-h) Zj Zj;rw[Nat.mul_one,VN]at ar;rw[Nat.mul_one,VM]at an;simp only[Option.map_some,FB]at an;have av:(ks.take h).length=h:=by rw[Ql];omega
  have aw:(ks.drop h).length=ks.length-h:=by rw[Qm]
  have aA:Hid (∀w',Chg w w' []->Cl prog 194 #[nS (nM ⟨b,o,nN⟩) h c] w' (Ja (ks.take h) w')):=fun w' hc=>
   az.o h Zj (ks.take h) _ w' Zj (by rw[av];exact ar.kept hc) (fun s i=>HK.o s (List.mem_of_mem_take i)) Zj
  have aB:Hid (∀w',Chg w w' []->Cl prog 194 #[nS (nM ⟨b,o+h,nN⟩) (ks.length-h) (c-h)] w' (Ja (ks.drop h) w')):=fun w' hc=>
   az.o (ks.length-h) Zj (ks.drop h) _ w' Zj (by rw[aw];exact an.kept hc) (fun s i=>HK.o s (List.mem_of_mem_drop i)) Zj
  have U:Hid (List.merge (AY (ks.take h)) (AY (ks.drop h)) (Hp fun s=>s)=AY ks):=by unfold Hid;rw[PF,List.take_append_drop]
  have E:Hid ((AY (ks.take h)).length=h/\(AY (ks.drop h)).length=ks.length-h):=by unfold Hid;rw[A3,A3,av,aw];exact⟨rfl,rfl⟩
  have aC:Hid (∀s∈AY (ks.take h),JA s):=fun s i=>HK.o s (List.mem_of_mem_take (D9.1 i))
  have aD:Hid (∀s∈AY (ks.drop h),JA s):=fun s i=>HK.o s (List.mem_of_mem_drop (D9.1 i))
  clear ar an av aw au hh i;have q1:h<=c:=Zj
  have q2:(h:Int)<=(c:Int):=Zj
  have q3:¬c=h:=Zj
  have q4:h<c:=Zj
  have z1:IntKind.i64.wrap (h:Int)=(h:Int):=IntWalk.i64_in _ Zj;have z2:(0:Int)<=(h:Int):=Zj
  have q5:(h:Int)<=(ks.length:Int):=Zj
  go_enter func194,ntmps194
  go_upto_region 3 with(fail)
  go_cut [3,4]from 12 to 23 (fun s3 s4 wx=>AK wx s3 9 (Ad (AY (ks.take h)))/\AK wx s4 9 (Ad (AY (ks.drop h)))/\Chg w wx [])
  case first=>
   go_region_with(first
    |(go_at_call_of 194 (Vl.slice (nM ⟨b,o,nN⟩) h c);refine(aA.o _ (by first|exact(Chg.refl w []).drew|exact((Chg.refl w []).drew).trans ao)).mono ?_;rintro e w1 ⟨⟨v1,rfl,Z,a8⟩,C⟩)
    |(go_at_call 194;refine(aB.o _ (by first|exact(Chg.refl w []).drew|exact((Chg.refl w []).drew).trans C)).mono ?_;rintro e w2 ⟨⟨v2,rfl,aa,a9⟩,ao⟩))
   all_goals(go_wp2_with fail;go_meet)
   all_goals first
    |exact⟨Z.kept ao,aa,(((Chg.refl w []).drew).trans C).trans ao⟩
    |exact⟨Z,aa.kept C,(((Chg.refl w []).drew).trans ao).trans C⟩
  case rest=>
   obtain⟨Z,aa,d⟩:=hcut;have HG:=hZ d;have O:=Z.rowC;have P:=aa.rowC;rw[Ao,E.o.1]at O;rw[Ao,E.o.2]at P;obtain⟨F,aJ⟩:=Ue wc
   rw[<-aJ]at HG O P|-;obtain⟨A,hA⟩:=Ue (AY (ks.take h))
   obtain⟨B,hB⟩:=Ue (AY (ks.drop h))
   rw[<-hA]at O U aC E;rw[<-hB]at P U aD E;clear Z aa d aJ hA hB aA aB;obtain⟨a3,c3,rfl,a0,_⟩:=O.form;obtain⟨a4,c4,rfl,a1,_⟩:=P.form;have aL:=hZ O;have aM:=hZ P;clear O P;go_wp2_with fail
   go_loopw [3,4,5] (fun v3 v4 v5 wr=>∃(X Y f:List BY),As F v3 1 X.length (Ad X)/\As F v4 1 Y.length (Ad Y)/\AK wr v5 9 (Ad f)/\Chg F wr []/\(∀g,v5.ownBlock=nM g->F.heap.size<=g)/\
     f++List.merge X Y (Hp fun s=>s)=AY ks/\X.length+Y.length+f.length=ks.length/\(∀s∈X,JA s)/\(∀s∈Y,JA s)) (fun v3 v4 _ _=>LD v3+LD v4)
   case atStart=>exact⟨A,B,[],by rw[E.o.1];exact aL.o,by rw[E.o.2];exact aM.o,AK.nil _ _,Chg.refl _ _,fun g d=>(by cases d),U.o,by rw[E.o.1,E.o.2];simp;omega,aC.o,aD.o⟩
   case round=>
    obtain⟨wa,rfl⟩:=Ue wr
    obtain⟨X,Y,f,hX,hY,hO,d,ho,z,L,aF,aG⟩:=hrel;obtain⟨a5,c5,rfl,ab,_⟩:=hX.form;obtain⟨a6,c6,rfl,ad,_⟩:=hY.form;have V:=hZ hX;have W:=hZ hY;have T:=hZ hO;have p:=hZ d;have D:=hZ ho;have S:=hZ z;have Q:=hZ aF;have R:=hZ aG;clear hX hY hO d ho z aF aG;have u:Hid ((Ad f).length=f.length):=Ao f
    match X,Y with
    |[],[]=>
     have aE:f=AY ks:=by have:=S.o;simpa using this
     have HF:=hZ aE;clear aE;go_wp2_with fail
     go_ret
     exact⟨⟨_,rfl,by rw[<-HF.o];exact T.o,fun g d=>Q7 HG.o.size (D.o g d)⟩,HG.o.trans p.o⟩
    |[],y::l=>
     have J:Hid (f++[y]++List.merge [] l (Hp fun s=>s)=AY ks):=by unfold Hid;rw[<-S.o,FP,FP];simp
     obtain⟨b6,o6,rfl,af⟩:=W.o.base Zh ZM;have ah:=p.o.keeps (af 0 (nG y) rfl);rw[Nat.add_zero]at ah;simp only[List.length_nil,Qj]at L ab ad|-;have aI:f.length<=4294967296:=Zj
     obtain⟨m,z⟩:=Ue (l.length+1)
     have al:Hid (As F (nS (nM ⟨b6,o6,nN⟩) m c6) 1 m (nG y::Ad l)):=by rw[z];exact W.o
     have ak:=hZ z;rw[<-z]at L ad|-;have aT:((m:Int)==0)=false:=by rw[Qq];omega
     have aU:(0:Int)<(m:Int):=Zj
     have aV:m<=4294967297:=Zj
     have ay:0<m:=Zj
     have aY:decide (0<m)=true:=decide_eq_true ay;clear z;clear af
     rcases Decidable.em (c6=1)with K|K
     all_goals
      go_wp2_with fail
      go_quiet(fail)
      go_wp2_with(first
       |(at_builtin;refine AM rfl _ _ _ rfl 9 Ho 16 underlying27 Cf rfl u5 (Ad f) ZN (by exact T.o.kept (bs:=[]) (by exact cg cR) Zh) wa.heap.size (nG y) ZN (by exact Bx Zh _ _) rfl (by rw[u.o];omega) (by rw[u.o];omega) ?_;rw[u.o];intro g am w3 B r t;have I:=hZ B;have G:=hZ r;have H:=hZ t;clear B r t))
      go_roundw
      case rel=>
       have z1:=p.o.size;have e1:=ak.o;refine⟨[],l,f++[y],V.o,(by first|(rw[<-Ao l];refine al.o.next _ ?_ ?_<;>(try rw[Ao])<;>omega)|(rw[<-Ao l];refine ED ?_ ?_<;>(rw[Ao];omega))),(by rw[FV];exact I.o.norm Zh rfl),Chg.own (sv:= nS nN 0 0) (by exact cg p.o) G.o (fun g d=>by cases d) (fun g d=> .inr (D.o g d)),fun g' n=> ?_,by rw[<-J.o],by rw[Qk];simp only[List.length_nil,Qj];omega,Q.o,(fun s i=>R.o s (by simp[i]))⟩;simp[Vl.ownBlock]at n;subst n
       rcases H.o with h|h
       .exact D.o _ h
       .simp at h;omega
      case measure=>simp[LD];omega
    |x::k,[]=>
     have J:Hid (f++[x]++List.merge k [] (Hp fun s=>s)=AY ks):=by unfold Hid;rw[<-S.o,FQ,FQ];simp
     obtain⟨b5,o5,rfl,ae⟩:=V.o.base Zh ZM;have ag:=p.o.keeps (ae 0 (nG x) rfl);rw[Nat.add_zero]at ag;simp only[List.length_nil,Qj]at L ab ad|-;have aI:f.length<=4294967296:=Zj
     obtain⟨m,z⟩:=Ue (k.length+1)
     have aj:Hid (As F (nS (nM ⟨b5,o5,nN⟩) m c5) 1 m (nG x::Ad k)):=by rw[z];exact V.o
     have ai:=hZ z;rw[<-z]at L ab|-;have aT:((m:Int)==0)=false:=by rw[Qq];omega
     have aU:(0:Int)<(m:Int):=Zj
     have aV:m<=4294967297:=Zj
     have ay:0<m:=Zj
     have aY:decide (0<m)=true:=decide_eq_true ay;clear z;clear ae
     rcases Decidable.em (c5=1)with K|K
     all_goals
      go_wp2_with fail
      go_quiet(fail)
      go_wp2_with(first
       |(at_builtin;refine AM rfl _ _ _ rfl 9 Ho 16 underlying27 Cf rfl u5 (Ad f) ZN (by exact T.o.kept (bs:=[]) (by exact cg cR) Zh) wa.heap.size (nG x) ZN (by exact Bx Zh _ _) rfl (by rw[u.o];omega) (by rw[u.o];omega) ?_;rw[u.o];intro g am w3 B r t;have I:=hZ B;have G:=hZ r;have H:=hZ t;clear B r t))
      go_roundw
      case rel=>
       have z1:=p.o.size;have e1:=ai.o;refine⟨k,[],f++[x],(by first|(rw[<-Ao k];refine aj.o.next _ ?_ ?_<;>(try rw[Ao])<;>omega)|(rw[<-Ao k];refine ED ?_ ?_<;>(rw[Ao];omega))),W.o,(by rw[FV];exact I.o.norm Zh rfl),Chg.own (sv:= nS nN 0 0) (by exact cg p.o) G.o (fun g d=>by cases d) (fun g d=> .inr (D.o g d)),fun g' n=> ?_,by rw[<-J.o],by rw[Qk];simp only[List.length_nil,Qj];omega,(fun s i=>Q.o s (by simp[i])),R.o⟩;simp[Vl.ownBlock]at n;subst n
       rcases H.o with h|h
       .exact D.o _ h
       .simp at h;omega
      case measure=>simp[LD];omega
    |x::k,y::l=>
     obtain⟨b5,o5,rfl,ae⟩:=V.o.base Zh ZM;obtain⟨b6,o6,rfl,af⟩:=W.o.base Zh ZM;have ag:=p.o.keeps (ae 0 (nG x) rfl);have ah:=p.o.keeps (af 0 (nG y) rfl);rw[Nat.add_zero]at ag ah;simp only[List.length_nil,Qj]at L ab ad|-;have aI:f.length<=4294967296:=Zj
     obtain⟨M,ap⟩:=Ue (k.length+1)
     have aj:Hid (As F (nS (nM ⟨b5,o5,nN⟩) M c5) 1 M (nG x::Ad k)):=by rw[ap];exact V.o
     have ai:=hZ ap;rw[<-ap]at L ab|-;have ba:((M:Int)==0)=false:=by rw[Qq];omega
     have bc:(0:Int)<(M:Int):=Zj
     have be:M<=4294967297:=Zj
     have aW:0<M:=Zj
     have bg:decide (0<M)=true:=decide_eq_true aW;clear ap;obtain⟨N,aq⟩:=Ue (l.length+1)
     have al:Hid (As F (nS (nM ⟨b6,o6,nN⟩) N c6) 1 N (nG y::Ad l)):=by rw[aq];exact W.o
     have ak:=hZ aq;rw[<-aq]at L ad|-;have bb:((N:Int)==0)=false:=by rw[Qq];omega
     have bd:(0:Int)<(N:Int):=Zj
     have bf:N<=4294967297:=Zj
     have aX:0<N:=Zj
     have bh:decide (0<N)=true:=decide_eq_true aX;clear aq;clear ae af;have kx:=Q.o x Zh;have ky:=R.o y Zh;have HC:=hZ fun w=>MN x y w kx.2 ky.2 kx.1 ky.1
     clear kx ky;obtain⟨q,hq⟩:=Ue (Utf.BK x y)
     rw[<-hq]at HC;by_cases aH:q<=0
     .have J:Hid (f++[x]++List.merge k (y::l) (Hp fun s=>s)=AY ks):=by unfold Hid;rw[<-S.o,Mj (fun s=>s) (by rw[<-hq];exact aH)];simp
      clear hq
      rcases Decidable.em (c5=1)with K|K
      all_goals
       go_wp2_with fail
       go_still_tail 14,Yb
       go_wp2_with(first
        |(go_at_call 175;refine(HC.o _).mono ?_;rintro e w1 ⟨rfl,C⟩;have A:=hZ ((Chg.refl wa []).drew.trans C);have aR:=A.o.keeps ag;have aS:=A.o.keeps ah;clear C)
        |(at_builtin;refine AM rfl _ _ _ rfl 9 Ho 16 underlying27 Cf rfl u5 (Ad f) ZN (by exact(T.o.kept A.o).kept (bs:=[]) (by exact cg cR) Zh) w1.heap.size (nG x) ZN (by exact Bx Zh _ _) rfl (by rw[u.o];omega) (by rw[u.o];omega) ?_;rw[u.o];intro g am w3 B r t;have I:=hZ B;have G:=hZ r;have H:=hZ t;clear B r t))
       go_roundw
       case rel=>
        have z1:=p.o.size;have z2:=A.o.size;have e1:=ai.o;have e2:=ak.o;refine⟨k,(y::l),f++[x],(by first|(rw[<-Ao k];refine aj.o.next _ ?_ ?_<;>(try rw[Ao])<;>omega)|(rw[<-Ao k];refine ED ?_ ?_<;>(rw[Ao];omega))),(by rw[Qj,<-e2];exact al.o),(by rw[FV];exact I.o.norm Zh rfl),Chg.own (sv:= nS nN 0 0) (by exact cg (p.o.trans A.o)) G.o (fun g d=>by cases d) (fun g d=> .inr (D.o g d)),fun g' n=> ?_,by rw[<-J.o],by rw[Qk];simp only[List.length_nil,Qj];omega,(fun s i=>Q.o s (by simp[i])),R.o⟩;simp[Vl.ownBlock]at n;subst n
        rcases H.o with h|h
        .exact D.o _ h
        .simp at h;omega
       case measure=>simp[LD];omega
     .have J:Hid (f++[y]++List.merge (x::k) l (Hp fun s=>s)=AY ks):=by unfold Hid;rw[<-S.o,K9 (fun s=>s) (by rw[<-hq];exact aH)];simp
      clear hq
      rcases Decidable.em (c6=1)with K|K
      all_goals
       go_wp2_with fail
       go_still_tail 14,Yb
       go_wp2_with(first
        |(go_at_call 175;refine(HC.o _).mono ?_;rintro e w1 ⟨rfl,C⟩;have A:=hZ ((Chg.refl wa []).drew.trans C);have aR:=A.o.keeps ag;have aS:=A.o.keeps ah;clear C)
        |(at_builtin;refine AM rfl _ _ _ rfl 9 Ho 16 underlying27 Cf rfl u5 (Ad f) ZN (by exact(T.o.kept A.o).kept (bs:=[]) (by exact cg cR) Zh) w1.heap.size (nG y) ZN (by exact Bx Zh _ _) rfl (by rw[u.o];omega) (by rw[u.o];omega) ?_;rw[u.o];intro g am w3 B r t;have I:=hZ B;have G:=hZ r;have H:=hZ t;clear B r t))
       go_roundw
       case rel=>
        have z1:=p.o.size;have z2:=A.o.size;have e1:=ai.o;have e2:=ak.o;refine⟨(x::k),l,f++[y],(by rw[Qj,<-e1];exact aj.o),(by first|(rw[<-Ao l];refine al.o.next _ ?_ ?_<;>(try rw[Ao])<;>omega)|(rw[<-Ao l];refine ED ?_ ?_<;>(rw[Ao];omega))),(by rw[FV];exact I.o.norm Zh rfl),Chg.own (sv:= nS nN 0 0) (by exact cg (p.o.trans A.o)) G.o (fun g d=>by cases d) (fun g d=> .inr (D.o g d)),fun g' n=> ?_,by rw[<-J.o],by rw[Qk];simp only[List.length_nil,Qj];omega,Q.o,(fun s i=>R.o s (by simp[i]))⟩;simp[Vl.ownBlock]at n;subst n
        rcases H.o with h|h
        .exact D.o _ h
        .simp at h;omega
       case measure=>simp[LD];omega
theorem ZF{x y:BY}(h:x≠y):(x.toList==y.toList)=false:=by
 rw[Qq];intro e;rw[ByteArray.toList_eq,ByteArray.toList_eq]at e;exact h (ByteArray.ext (Array.toList_inj.1 e))
theorem Ow(ks:List BY)(Q:Vl)(w:Wl)(C:As w Q 1 ks.length (Ad ks))(N:∀s∈ks,JA s)(hl:ks.length<=4294967296):
  Cl prog 164 #[Q] w fun e w'=>e= nR (.bool (!decide ks.Nodup))/\Chg w w' []:=by
 obtain⟨a,c,rfl,ae,_⟩:=C.form;have H:=hZ fun w' (h:Chg w w' [])=>TK ks.length ks _ w' (Q8 _) (C.kept h) N hl
 have D:=TU (l:=AY ks) (Cs (fun s=>s) ks);rw[Lb]at D;have ab:=A3 ks;have u:=hZ D;obtain⟨L,B⟩:=Ue (AY ks)
 have T:Hid (∀w',Chg w w' []->Cl prog 194 #[nS a ks.length c] w' fun e R=>(∃v,e= nR v/\AK R v 9 (Ad L)/\∀g,v.ownBlock=nM g->w'.heap.size<=g)/\Chg w' R []):=by rw[B];exact H.o
 rw[<-B]at ab u;have ad:L.length<=4294967296:=Zj
 have A:Hid ((Ad L).length=L.length):=Ao L;clear C N D B H;go_enter func164,ntmps164
 go_wp2_with(first|(go_at_call 194;refine(T.o _ cR).mono ?_;rintro e w1 ⟨⟨v,rfl,r,_⟩,M⟩;obtain⟨a1,c1,rfl,_⟩:=r.form;rw[A.o]at r|-;have V:=hZ r;have G:=hZ M;clear r M))
 go_loopw [4] (fun F wr=>∃i:Nat,1<=i/\(i<=L.length\/i=1)/\F= nI nX i/\Chg w1 wr []/\∀j s,j+1<i->L[j]? =nM s->L[j+1]? ≠nM s) (fun F _=>L.length-(intOf F).toNat)
 case atStart=>exact⟨1,Zj,.inr rfl,rfl,Chg.refl _ _,fun j s h=>Zj⟩
 case round=>
  obtain⟨i,ag,ah,rfl,K,O⟩:=hrel;have p:=hZ K;have I:=hZ O;clear K O;by_cases ai:i<L.length
  .obtain⟨b,q⟩:∃b,i=b+1:=⟨i-1,Zj⟩
   obtain⟨x,n⟩:∃x,L[b]? =nM x:=⟨_,Q9 Zj⟩
   obtain⟨y,o⟩:∃y,L[b+1]? =nM y:=⟨_,Q9 Zj⟩
   have t:=V.o.kept p.o;obtain⟨aa,cc,W,J⟩:=t.form
   injection W with X _ Y
   subst X;subst Y;obtain⟨g,rfl⟩:=J (by intro Z;have d:=A.o;rw[Z]at d;simp at d;omega);have cx:wr.cell? ⟨g,b,nN⟩=nM (nG x):=t.cell rfl b _ (by simp[Ad,n]);have cy:wr.cell? ⟨g,i,nN⟩=nM (nG y):=t.cell rfl i _ (by simp[Ad,q,o]);have z1:(i:Int)-1=(b:Int):=Zj
   have z2:(0:Int)<=(b:Int):=Zj
   have z3:(b:Int)<(L.length:Int):=Zj
   have z4:IntKind.i64.wrap (b:Int)=(b:Int):=IntWalk.i64_in _ Zj;have af:b<=4294967296:=Zj
   rw[show(Ad L).length=L.length from A.o]at*;have S:=hZ q;clear J t;by_cases E:y=x
   .subst E
    have m:¬ks.Nodup:=fun h=>(u.o.1 h) b y n o
    have k:(!decide ks.Nodup)=true:=by simp[m]
    have z:=hZ k;clear m k n o q;go_wp2_with fail
    go_quiet(fail)
    go_wp2_with fail
    go_ret
    exact⟨Bo z.o.symm,G.o.trans (by exact cg p.o)⟩
   .have P:∀j s,j+1<b+1+1->L[j]? =nM s->L[j+1]? ≠nM s:=by
     intro j s hj d f;by_cases e:j=b
     .subst e;rw[n]at d;rw[o]at f;injection d with d;injection f with f;exact E (f.trans d.symm)
     .exact I.o j s Zj d f
    have U:=hZ P;have hb:(y.toList==x.toList)=false:=ZF E;clear P n o q;go_wp2_with fail
    go_quiet(fail)
    go_wp2_with fail
    go_roundw
    case rel=>exact⟨i+1,Zj,.inl Zj,by go_num,by exact cg p.o,by rw[S.o];exact U.o⟩
    case measure=>simp[intOf];omega
  .have m:ks.Nodup:=u.o.2 fun i s d f=>by
    have hj:=(Qc.1 f).1;exact I.o i s Zj d f
   have k:(!decide ks.Nodup)=false:=by simp[m]
   have z:=hZ k;clear m k;go_wp2_with fail
   go_ret
   exact⟨Bo z.o.symm,G.o.trans p.o⟩
def V6:Vl:= nA #[nG ⟨#[]⟩,nI nX 0,.bool false,nI .u64 0,nG ⟨#[]⟩,nS nN 0 0,nS nN 0 0]
theorem Ic:(prog.info? 255).map (fun i=>(i.zero,i.size,i.bytes))=nM (nM V6,7,104):=Yb
def NP:Vl:= nA #[nI nX 0,.bool false,nI .u64 0,nG ⟨#[]⟩,nS nN 0 0,nS nN 0 0]
theorem Dp:(prog.info? 29).map (fun i=>(i.zero,i.size,i.bytes))=nM (nM NP,6,88):=Yb
theorem It:(prog.info? 255).map (·.size)=nM 7:=Yb
abbrev SA:=BY×List Vl
def CX(p:SA):List Vl:= nG p.1::p.2
def CQ(l:List SA):List Vl:=l.flatMap CX
def Fy(p:SA):Prop:=
 JA p.1/\∃(i:Int) (b:Bool) (a:Int) (j:BY) (f:Option Addr) (h g:Nat) (c:Option Addr) (e d:Nat),p.2=vC i b a j (nS f h g) (nS c e d)
theorem Fy.length{p:SA}(h:Fy p):(CX p).length=7:=by
 obtain⟨_,_,_,_,_,_,_,_,_,_,_,h⟩:=h;unfold CX;rw[h];rfl
theorem Bm(p:SA)(l:List SA):CQ (p::l)=CX p++CQ l:=by simp[CQ]
theorem EM(l m:List SA):CQ (l++m)=CQ l++CQ m:=by simp[CQ]
theorem D4{l:List SA}(h:∀p∈l,Fy p):(CQ l).length=l.length*7:=by
 induction l with
 |nil=>rfl
 |cons p l b=>rw[Bm,Qk,b fun q a=>h q (by simp[a]),(h p Zh).length,Qj];omega
theorem Va{l:List SA}(h:∀p∈l,Fy p)(k:Nat):(CQ l).take (k*7)=CQ (l.take k):=by
 induction l generalizing k with
 |nil=>simp[CQ]
 |cons p l b=>
  cases k with
  |zero=>simp[CQ]
  |succ k=>
   rw[Bm,List.take_succ_cons,Bm,List.take_append,(h p Zh).length,Qn (by rw[(h p Zh).length];omega),show(k+1)*7-7=k*7 from by omega,
    b fun q a=>h q (by simp[a])]
theorem Ok{l:List SA}(h:∀p∈l,Fy p)(k:Nat):(CQ l).drop (k*7)=CQ (l.drop k):=by
 induction l generalizing k with
 |nil=>simp[CQ]
 |cons p l b=>
  cases k with
  |zero=>simp
  |succ k=>
   rw[Bm,List.drop_succ_cons,List.drop_append,(h p Zh).length,List.drop_of_length_le (by rw[(h p Zh).length];omega),show(k+1)*7-7=k*7 from by omega,
    b fun q a=>h q (by simp[a]),List.nil_append]
theorem Ba.capLe{w:Wl}{a:Option Addr}{n m b sz:Nat}{e:Ti}{vs:List Vl}(h:Ba w (nS a n b) e sz m vs):n=m/\m<=b:=by
 rcases h.2 with⟨c,j⟩|⟨g,f,i,d,_,_,k,_⟩
 .injection c;omega
 .injection d;omega
theorem Ba.rowC{w:Wl}{sv:Vl}{e:Ti}{sz n:Nat}{xs:List Vl}(h:Ba w sv e sz n xs)(d:xs.length=n*sz):As w sv sz n xs:=by
 obtain⟨a,c,rfl,k⟩:=h.form;have j:=h.capLe;refine⟨a,c,rfl,j.2,d,fun i v f=> ?_⟩
 obtain⟨g,rfl⟩:=k (by
  rcases Nat.eq_zero_or_pos n with b|b
  .have:=(Qc.1 f).1
   rw[d,b]at this;omega
  .exact b)
 exact⟨g,0,rfl,by rw[Nat.zero_add];exact h.cell rfl i v f⟩
end
section
open Go Go.RowKit Tree
theorem Lk{ks:List BY}{cl:List (List Vl)}(a:ks.length=cl.length):(Hl Prod.fst (ks.zip cl)).map Prod.fst=AY ks:=by
 have c:(ks.zip cl).map Prod.fst=ks:=List.map_fst_zip (Nat.le_of_eq a)
 have b:((Hl Prod.fst (ks.zip cl)).map Prod.fst).Perm ks:=by
  have:=(Gs Prod.fst (ks.zip cl)).map Prod.fst;rwa[c]at this
 refine DU (fun s=>s) (b.trans (DG ks).symm) ?_ (Cs (fun s=>s) ks) (fun _ _ _ _ h=>h);rw[List.pairwise_map];exact Cs Prod.fst (ks.zip cl)
theorem Sj{ks:List BY}{cl:List (List Vl)}(m:ks.Nodup)(k:ks.length=cl.length){i:Nat}{s:BY}(h:(AY ks)[i]? =nM s):
  ∃c,cl[A5 ks s]? =nM c/\(Hl Prod.fst (ks.zip cl))[i]? =nM (s,c):=by
 rw[<-Lk k,List.getElem?_map]at h;obtain⟨p,a,rfl⟩:=Option.map_eq_some_iff.1 h;have l:p∈ks.zip cl:=(Ka Prod.fst).1 (Qi a);obtain⟨j,g⟩:=List.mem_iff_getElem?.1 l;obtain⟨e,f⟩:=List.getElem?_zip_eq_some.1 g;obtain⟨b,d⟩:=Qc.1 e;have:=GU m j b;rw[d]at this;exact⟨p.2,by rw[this];exact f,a⟩
theorem Aq.chunks{w:Wl}{F:Nat->Prop}:∀{l:List Tr} {xs:List Vl},Aq w F l xs->∃cl:List (List Vl),xs=cl.flatten/\cl.length=l.length/\∀(i:Nat) (t:Tr) (c:List Vl),l[i]? =nM t->cl[i]? =nM c->AL w F t c
 |[],xs,h=>⟨[],by simpa[Aq]using h,rfl,fun i t c a _=>by simp at a⟩
 |t::l,xs,h=>by
  simp only[Aq]at h;obtain⟨c,r,rfl,e,f⟩:=h;obtain⟨cl,rfl,g,j⟩:=Aq.chunks f;refine⟨c::cl,rfl,by simp[g],fun i u d a b=> ?_⟩
  cases i with
  |zero=>simp at a b;subst a;subst b;exact e
  |succ i=>exact j i u d (by simpa using a) (by simpa using b)
theorem Hb{w:Wl}{F:Nat->Prop}:∀{l:List Tr} {cl:List (List Vl)},cl.length=l.length->(∀(i:Nat) (t:Tr) (c:List Vl),l[i]? =nM t->cl[i]? =nM c->AL w F t c)->Aq w F l cl.flatten
 |[],cl,a,_=>by
  have:cl=[]:=List.eq_nil_of_length_eq_zero a;subst this;simp[Aq]
 |t::l,[],a,_=>by simp at a
 |t::l,c::cl,a,h=>by
  simp only[Aq];exact⟨c,cl.flatten,rfl,h 0 t c rfl rfl,Hb (by simpa using a) fun i u d b e=>h (i+1) u d (by simpa using b) (by simpa using e)⟩
theorem AL.mem{w:Wl}{F:Nat->Prop}{t:Tr}{c:List Vl}(h:AL w F t c){s:BY}(a:JA s):Fy (s,c):=by
 obtain⟨e,f,b,d,xs,h,_⟩:=h.uni;exact⟨a,_,_,_,_,_,_,_,_,_,_,h⟩
theorem WW(l:List SA):(l.map Prod.snd).flatten=l.flatMap Prod.snd:=by simp[List.flatMap]
theorem Bw{P:Program}{l:Array Oper}{o:Oper}{a:Act}{K:Act->Wl->Prop}{Q:Exit->Act->Wl->Prop}{E:Prop}{w:Wl}(y:o.guard=nN)(s x:Operand)(t:Ti)(F:o.op= .call {callee:= .builtin .append,args:=#[s,x],argTypes:=#[t,t]})(e:Ti)(z:Vl)(sz d:Nat)(J:0<sz)(M:P.underlying t=nM (.slice e))(A:(P.info? e).map (fun i=>(i.zero,i.size,i.bytes))=nM (nM z,sz,d))(W:z.cells.size=sz)(sv:Vl)(n:Nat)(xs:List Vl)(I:a.eval s=sv)(G:Ba w sv e sz n xs)(B:Nat)(us:List Vl)(U:a.eval x= nS (nM ⟨B,0,nN⟩) 1 1)(R:us.length=sz)(N:∀j v,us[j]? =nM v->w.cell? ⟨B,j,nN⟩=nM v)(O:∀u∈us,u.oneCell'=true)(f:(n+1)*d<=140737488355328)(Y:n<=140737488355328)(h:∀g c w',Ba w' (nS (nM ⟨g,0,nN⟩) (n+1) c) e sz (n+1) (xs++us)->Chg w w' sv.ownBlock.toList->(sv.ownBlock=nM g\/g=w.heap.size)->
   K (a.put o.dst (nS (nM ⟨g,0,nN⟩) (n+1) c)) w'):
  if Region.wanted o (yielded l a.tmps)=true then Oper.wp P o a w K Q else E:=by
 obtain⟨i,hi,V,L,q⟩:=info_parts A
 have D:∀j v,us[j]? =nM v->w.cell? ((⟨B,0,nN⟩:Addr).add j)=nM v:=fun j v S=>by
  rw[show(⟨B,0,nN⟩:Addr).add j=⟨B,j,nN⟩from by unfold Addr.add;split<;>simp_all];exact N j v S
 obtain⟨g,c,w',H,m,b,p,X⟩:=run_append_lies (P:=P) w t o.type 0 e i z sz d M hi V L q W J sv n xs G ⟨B,0,nN⟩ 1 1 us (by rw[R,Nat.one_mul]) D O ZM (by unfold maxLen;omega) f (Nat.zero_le _) _ rfl;have T:Region.wanted o (yielded l a.tmps)=true:=by simp[Region.wanted,y]
 rw[Qr T];unfold Oper.wp execOp;simp only[F,resolve,invoke,builtin,Sem.run_bind,Sem.run_pure,Result.andThen_ok,List.map_toArray,List.map_cons,List.map_nil,I,U,H];exact(h g c w' m ⟨b.os,b.tape,b.output,b.size,fun k C f=>b.block k C fun r=>f (by rw[<-r];simp)⟩ p)
structure Ap where
 sort:Int
 flag:Bool
 bits:Nat
 text:BY
 count:Int
 keys:List BY
def Kw(s:Ap):Bool:=
 Bs s.sort s.flag s.bits s.text s.count s.keys.length&&(!decide (s.sort=3)||Fl.Fh s.bits)&&(Utf.Al s.text&&s.keys.all Utf.Al)&&decide s.keys.Nodup
def Hn(s:Ap):Nat:=s.count.toNat+s.keys.length
def CF(s:Ap)(a:List Tr):Tr:=
 if s.sort=1 then .null else if s.sort=2 then .flag s.flag else if s.sort=3 then .num (Cg s.bits)else if s.sort=4 then .text s.text else if s.sort=5 then .list a else D1 s.keys a
def AF(s:Ap)(l:List Tr):Tr:=CF s (l.drop (l.length-Hn s))
def Ds(s:Ap)(l:List Tr):Bool:=Kw s&&decide (Hn s<=l.length)&&(Ag (AF s l)).within
def NW(l:List Tr)(s:Ap):List Tr:=l.take (l.length-Hn s)++[AF s l]
structure Di(s:Ap):Prop where
 bits:s.bits<18446744073709551616
 text:s.text.size<=2147483648
 keys:s.keys.length<=2147483648
 size:∀k∈s.keys,k.size<=2147483648
 sum:Ay s.keys<=4294967296
 count: -9223372036854775808<=s.count/\s.count<=9223372036854775807
theorem CU{s:Ap}:Kw s=true↔Bs s.sort s.flag s.bits s.text s.count s.keys.length=true/\(s.sort=3->Fl.Fh s.bits=true)/\Utf.Al s.text=true/\s.keys.all Utf.Al=true/\s.keys.Nodup:=by
 unfold Kw;simp only[Bool.and_eq_true,Bool.or_eq_true,Bool.not_eq_true',decide_eq_true_eq,decide_eq_false_iff_not]
 constructor
 .rintro⟨⟨⟨a,b⟩,c,d⟩,e⟩
  exact⟨a,fun h=>b.resolve_left (fun g=>g h),c,d,e⟩
 .rintro⟨a,b,c,d,e⟩
  refine⟨⟨⟨a, ?_⟩,c,d⟩,e⟩;by_cases h:s.sort=3
  .exact .inr (b h)
  .exact .inl h
theorem Gw{s:Ap}(h:Bs s.sort s.flag s.bits s.text s.count s.keys.length=true):
  1<=s.sort/\s.sort<=6/\0<=s.count/\(s.flag=true->s.sort=2)/\(s.bits≠0->s.sort=3)/\(s.text≠Dz->s.sort=4)/\(s.count≠0->s.sort=5)/\(s.keys≠[]->s.sort=6):=by
 unfold Bs at h;simp only[Bool.and_eq_true,Bool.or_eq_true,decide_eq_true_eq,Bool.not_eq_true']at h;obtain⟨⟨⟨⟨⟨⟨⟨a,b⟩,c⟩,d⟩,f⟩,i⟩,j⟩,k⟩:=h;refine⟨a,b,c,fun g=>d.resolve_left (by simp[g]),fun g=>f.resolve_left g,fun g=>i.resolve_left fun e=>g ?_,fun g=>j.resolve_left g,fun g=>k.resolve_left fun e=>g (List.eq_nil_of_length_eq_zero e)⟩;rw[ByteArray.toList_eq]at e;exact ByteArray.ext (Array.toList_inj.1 e)
theorem EJ.append{l m:List Tr}(h:EJ l)(k:EJ m):EJ (l++m):=fun t a=>(Qf.1 a).elim (h t) (k t)
theorem Ww{l:List Tr}{s:Ap}(b:EJ l)(h:Ds s l=true):EJ (NW l s):=by
 unfold Ds at h;simp only[Bool.and_eq_true]at h;exact EJ.append (b.take _) fun t a=>by simp at a;subst a;exact h.2
theorem LY{l:List Tr}{s:Ap}:(NW l s).length<=l.length+1:=by
 unfold NW;simp
def AI(s:Ap)(sk:Vl):List Vl:=[nI nX s.sort,.bool s.flag,nI .u64 s.bits,nG s.text,nI nX s.count,sk]
def Az(w:Wl):List Ap->List Vl->Prop
 |[],xs=>xs=[]
 |s::l,xs=>∃sk r,xs=AI s sk++r/\As w sk 1 s.keys.length (Ad s.keys)/\Az w l r
theorem Az.kept{w w':Wl}(a:Chg w w' []):∀{l:List Ap} {xs:List Vl},Az w l xs->Az w' l xs
 |[],_,h=>h
 |s::l,_,⟨sk,r,b,c,d⟩=>⟨sk,r,b,c.kept a,d.kept a⟩
theorem Az.length{w:Wl}:∀{l:List Ap} {xs:List Vl},Az w l xs->xs.length=l.length*6
 |[],_,h=>by unfold Az at h;subst h;rfl
 |s::l,_,⟨sk,r,a,_,b⟩=>by subst a;have:=b.length;simp[AI];omega
theorem Az.append{w:Wl}:∀{l m:List Ap} {xs ys:List Vl},Az w l xs->Az w m ys->Az w (l++m) (xs++ys)
 |[],_,_,_,h,k=>by unfold Az at h;subst h;exact k
 |s::l,_,_,_,⟨sk,r,a,b,c⟩,k=>⟨sk,r++_,by rw[a,List.append_assoc],b,c.append k⟩
theorem Az.get{w:Wl}:∀{l:List Ap} {xs:List Vl},Az w l xs->∀(i:Nat) (s:Ap),l[i]? =nM s->∃sk,As w sk 1 s.keys.length (Ad s.keys)/\∀j v,(AI s sk)[j]? =nM v->xs[i*6+j]? =nM v
 |[],_,_,i,s,a=>by simp at a
 |k::l,_,⟨sk,r,c,d,e⟩,i,s,a=>by
  subst c
  cases i with
  |zero=>
   simp at a;subst a;refine⟨sk,d,fun j v b=> ?_⟩;have f:j<(AI k sk).length:=(Qc.1 b).1;rw[Nat.zero_mul,Nat.zero_add,List.getElem?_append_left f,b]
  |succ i=>
   obtain⟨m,g,h⟩:=e.get i s (by simpa using a);refine⟨m,g,fun j v b=> ?_⟩;rw[List.getElem?_append_right (by simp[AI];omega),<-h j v b]
   congr 1
   simp[AI];omega
def DS:List Tr->List Ap->Option (List Tr)
 |row,[]=>nM row
 |row,s::l=>if Ds s row=true then DS (NW row s) l else nN
def CA(l:List Ap):Option Tr:=match DS [] l with
 |some [t]=>nM t
 |_=>nN
theorem OA{row:List Tr}{l:List Ap}{k:Nat}:DS row l=(match DS row (l.take k)with|some r=>DS r (l.drop k)|none=>nN):=by
 induction l generalizing row k with
 |nil=>simp[DS]
 |cons s l a=>
  cases k with
  |zero=>simp[DS]
  |succ k=>
   simp only[List.take_succ_cons,List.drop_succ_cons,DS];split
   .exact a
   .rfl
theorem KE{row r:List Tr}{l:List Ap}{k:Nat}{s:Ap}(h:DS row (l.take k)=nM r)(b:l[k]? =nM s):DS row (l.take (k+1))=if Ds s r=true then nM (NW r s)else nN:=by
 have a:=OA (row:=row) (l:=l.take (k+1)) (k:=k);rw[List.take_take,Nat.min_eq_left (Nat.le_succ k),h]at a;simp only at a;rw[a]
 have:(l.take (k+1)).drop k=[s]:=by
  rw[List.take_add_one,b,List.drop_append];have c:(l.take k).length=k:=by rw[Ql];have:=(Qc.1 b).1;omega
  rw[List.drop_of_length_le Zj,c];simp
 rw[this];simp[DS]
theorem Oz{row r:List Tr}{l:List Ap}{k:Nat}{s:Ap}(h:DS row (l.take k)=nM r)(c:l[k]? =nM s)(b:Ds s r=false):DS row l=nN:=by
 have a:=OA (row:=row) (l:=l) (k:=k+1);rw[KE h c,b]at a;simpa using a
theorem Jq{l:List Ap}:∀{row r:List Tr},EJ row->DS row l=nM r->EJ r/\r.length<=row.length+l.length:=by
 induction l with
 |nil=>intro row r a h;simp[DS]at h;subst h;exact⟨a,Zh⟩
 |cons s l d=>
  intro row r a h;simp only[DS]at h;split at h
  .rename_i c
   obtain⟨b,e⟩:=d (Ww a c) h;have:=LY (l:=row) (s:=s);exact⟨b,by simp only[Qj];omega⟩
  .cases h
mutual
def Av:Tr->Prop
 | .num b=>Hs b
 | .text s=>Utf.Al s=true/\s.size<=2097152
 | .list l=>KO l
 | .obj ks l=>Cy ks/\ks.length=l.length/\KO l
 |_=>True
def KO:List Tr->Prop
 |[]=>True
 |t::l=>Av t/\KO l
end
theorem Cu{l:List Tr}:KO l↔∀t∈l,Av t:=by
 induction l with
 |nil=>simp[KO]
 |cons t l a=>simp only[KO,a,Qh,forall_eq_or_imp]
theorem Tk(n:Nat):Cg (Cg n)=Cg n:=by
 unfold Cg;by_cases h:Fl.A7 n=0
 .rw[Qr h];rfl
 .rw[Qs h,Qs h]
theorem Tm{n:Nat}(b:n<18446744073709551616)(a:Fl.Fh n=true):Hs (Cg n):=by
 refine⟨?_, ?_,Tk n⟩
 .unfold Cg;split<;>omega
 .unfold Cg;split
  .rfl
  .exact a
theorem Sf{ks:List BY}(h:ks.Nodup):(AY ks).Nodup:=(Lb ks).2 h
theorem KY{ks:List BY}(f:∀k∈ks,Utf.Al k=true)(c:∀k∈ks,k.size<=2147483648)(j:ks.length<=65536)(d:ks.Nodup):Cy (AY ks):=by
 refine⟨fun s c=>f s (D9.1 c),fun s h=>c s (D9.1 h), ?_,by rw[A3];omega⟩;refine((Cs (fun s=>s) ks).and (Sf d)).imp fun{a b} h=> ?_
 have g:=(DW (fun s=>s)).1 h.1;have i:Utf.BK a b≠0:=fun e=>h.2 (Utf.FJ e)
 omega
theorem UY{s:Ap}{l:List Tr}(e:Di s)(r:∀t∈l,Av t)(y:l.length<=65536)(a:Ds s l=true):Av (AF s l):=by
 unfold Ds at a;simp only[Bool.and_eq_true,decide_eq_true_eq]at a;obtain⟨⟨u,z⟩,c⟩:=a;obtain⟨w,p,v,q,h⟩:=CU.1 u;have x:=Gw w;have f:∀t∈l.drop (l.length-Hn s),Av t:=fun t b=>r t (List.mem_of_mem_drop b)
 unfold AF CF at c|-;split
 .simp[Av]
 .split
  .simp[Av]
  .split
   .simp only[Av];exact Tm e.bits (p (by assumption))
   .split
    .rename_i i j k m
     rw[Qs i,Qs j,Qs k,Qr m]at c;simp only[Av];refine⟨v, ?_⟩;have:=(Ar c).2.1;simpa[Ag]using this
    .split
     .simp only[Av];exact Cu.2 f
     .rename_i n
      have o:s.count=0:=Decidable.byContradiction fun g=>n (x.2.2.2.2.2.2.1 g)
      have d:s.keys.length=(l.drop (l.length-Hn s)).length:=by rw[Qm];unfold Hn at*;rw[o]at*;simp at*;omega
      unfold D1;simp only[Av];refine⟨KY (List.all_eq_true.1 q) e.size (by rw[d,Qm];omega) h,by rw[A3,DD],Cu.2 fun t b=>f t ((Ku h d).mem_iff.1 b)⟩
theorem WA{l:List Ap}(c:∀s∈l,Di s):∀{row r:List Tr},(∀t∈row,Av t)->row.length+l.length<=65536->DS row l=nM r->∀t∈r,Av t:=by
 induction l with
 |nil=>intro row r b _ h;simp[DS]at h;subst h;exact b
 |cons s l i=>
  intro row r b d h;simp only[DS]at h;split at h
  .rename_i f
   refine i (fun x g=>c x (by simp[g])) (fun t e=> ?_) ?_ h
   .unfold NW at e
    rcases Qf.1 e with a|a
    .exact b t (List.mem_of_mem_take a)
    .simp at a;subst a;exact UY (c s Zh) b (by simp at d;omega) f
   .have:=LY (l:=row) (s:=s);simp at d;omega
  .cases h
theorem SW{l:List Ap}(a:∀s∈l,Di s)(b:l.length<=65536){t:Tr}(h:CA l=nM t):Av t:=by
 unfold CA at h;split at h
 .rename_i r c
  injection h with h
  subst h;exact WA a (row:=[]) (fun t d=>by cases d) (by simpa using b) c _ Zh
 .cases h
end
section
open _root_.Go.Proofs.Tryz
open Go Go.RowKit Tree
theorem D2(w b:Wl)(a:Act)(n:Int)(B:Nat)(i:a.defers=[{target:= .fn (.func 105) #[nP (nM ⟨B,0,nN⟩)],args:=#[]}])(g:a.tmps.getD 4 undef= nP (nM ⟨B,0,nN⟩))(d:Ac b B [.nilIface] 35)(j:Chg w b [])(k:w.heap.size<=B):
  bodyPostD prog f61 (Fc w) (.panic [{v:= nF 50 (nI nX n),recovered:=false}]) a b:=by
 show Leaves _ _ a.tmps _ a.defers (.panicking _) b
 rw[i];refine leaves_cons (f:=105) (args:=#[nP (nM ⟨B,0,nN⟩)]) Zh (by simp[go_sem]) ?_;refine(Lp ⟨B,0,nN⟩ .nilIface n b (d.cell 0) (d.frozen 0)).mono ?_;rintro e l m ⟨rfl,rfl,rfl⟩;have c:=(d.set 0 (nF 50 (nI nX n))).cell 0;simp only[List.set_cons_zero,Qa]at c;refine⟨nF 50 (nI nX n), ?_,⟨n,rfl⟩,j.setCell _ _ (by simp only;omega)⟩;have h:a.tmps[4]?.getD undef= nP (nM ⟨B,0,nN⟩):=by simpa using g
 simp[results,results61,go_sem,h,c]
theorem Mo(b:Nat)(s:Ap)(c:Option Addr)(a d:Nat)(w:Wl)(j:Bs s.sort s.flag s.bits s.text s.count a=false):
  Cl prog 61 #[nP (nM ⟨b,0,nN⟩),DY s.sort s.flag s.bits s.text s.count (nS c a d)] w (Fc w):=by
 have t:∀(i:Fn) (first h:Array Vl) (w:Wl),(Instr.makeFunc i first h).run prog w= .ok (.func i first h) w:=fun _ _ _ _=>rfl
 have n:=hZ j;have l:=hZ ((Ac.new w [nI nX s.sort,.bool s.flag,nI .u64 s.bits,nG s.text,nI nX s.count,nS c a d] 72).alloc (nC #[.nilIface] 35));have k:=hZ (CH w (nC [nI nX s.sort,.bool s.flag,nI .u64 s.bits,nG s.text,nI nX s.count,nS c a d].toArray 72) [.nilIface] 35);clear j;go_enter_defers func61,ntmps61
 unfold DY
 go_wp2_with(first
  |(go_at_call 107;refine(Ck s.sort s.flag s.bits s.text s.count c a d _).mono ?_;rintro e o ⟨rfl,f⟩;rw[n.o];have m:=hZ (l.o.kept f);have g:=hZ (k.o.kept f);obtain⟨B,C,u,v,x,y,z,A⟩:=Ac.cells6 m.o;obtain⟨q,r,p⟩:=Ac.cells1 g.o)
  |(go_at_call 106;refine(CD _ _).mono ?_;rintro e D ⟨rfl,rfl⟩))
 exact D2 w o _ _ (w.heap.size+1) rfl rfl g.o ((((Chg.refl w []).alloc _).alloc _).trans f) Zj
theorem Lu(F:Nat->Prop)(T:Ti)(b:Nat)(sv:Vl)(l:List Tr)(vs:List Vl)(t:Vl)(w:Wl)(j:C3 w F T b sv l vs)(H:∃a c,t= nS a 0 c)(I:l.length<=2147483648):
  Cl prog 61 #[nP (nM ⟨b,0,nN⟩),DY 1 false 0 ⟨#[]⟩ 0 t] w (Cx F T b sv (l++[.null]) w):=by
 obtain⟨a,c,rfl⟩:=H;have P:∀(p:Fn) (first o:Array Vl) (w:Wl),(Instr.makeFunc p first o).run prog w= .ok (.func p first o) w:=fun _ _ _ _=>rfl
 have r:Bs 1 false 0 ⟨#[]⟩ 0 0=true:=by unfold Bs;simp
 have s:(Ag .null).within=true:=rfl;have d:=hZ j;have y:=hZ r;have z:=hZ s;have v:=hZ ((Ac.new w [nI nX 1,.bool false,nI .u64 0,nG ⟨#[]⟩,nI nX 0,nS a 0 c] 72).alloc (nC #[.nilIface] 35));have u:=hZ (CH w (nC [nI nX 1,.bool false,nI .u64 0,nG ⟨#[]⟩,nI nX 0,nS a 0 c].toArray 72) [.nilIface] 35);have D:=j.blk.lt;clear j r s;go_enter_defers func61,ntmps61
 unfold DY
 go_wp2_with(first
  |(go_at_call 107;refine(Ck 1 false 0 ⟨#[]⟩ 0 a 0 c _).mono ?_;rintro e w1 ⟨rfl,i⟩;rw[y.o];have x:=hZ (v.o.kept i);have k:=hZ (u.o.kept i);obtain⟨X,Y,Q,R,S,U,V,W⟩:=Ac.cells6 x.o;obtain⟨A,L,K⟩:=Ac.cells1 k.o)
  |(go_at_call 106;refine(Au _ _).mono ?_;rintro e w3 ⟨rfl,rfl⟩)
  |(go_at_call 108;go_loud(have C:=hZ (d.o.kept ((((Chg.refl w []).alloc _).alloc _).trans i));refine(EO F T .null _ b sv l vs _ C.o (by simp only[Af]) z.o I).mono ?_;rintro e J ⟨rfl,q⟩;have n:=hZ q;clear q;have m:=hZ (k.o.kept n.o.chg (d.o.newNotIn (w.heap.size+1) Zj));obtain⟨N,O,M⟩:=Ac.cells1 m.o)))
 refine leaves_cons (f:=105) (args:=#[nP (nM ⟨w.heap.size+1,0,nN⟩)]) Zh (by simp[go_sem]) ?_;refine(DZ ⟨w.heap.size+1,0,nN⟩ _).mono ?_;rintro e Z aa ⟨rfl,rfl,rfl⟩;have B:(J.setCell ⟨w.heap.size+1,0,nN⟩ .nilIface).cell? ⟨w.heap.size+1,0,nN⟩=nM .nilIface:=(m.o.set 0 _).cell 0;simp[Leaves,settle,results,results61,go_sem,B];exact DA ((((Chg.refl w []).alloc _).alloc _).trans i) n.o (fun _ h=>h) (fun _ h _=>h) D (fun g G=>d.o.lst.lt G) _ Zj A (fun E=>by have:=d.o.lt _ E;omega) _
theorem Lt(F:Nat->Prop)(T:Ti)(b:Nat)(sv:Vl)(l:List Tr)(vs:List Vl)(a:Bool)(u:Vl)(w:Wl)(k:C3 w F T b sv l vs)(I:∃c d,u= nS c 0 d)(J:l.length<=2147483648):
  Cl prog 61 #[nP (nM ⟨b,0,nN⟩),DY 2 a 0 ⟨#[]⟩ 0 u] w (Cx F T b sv (l++[.flag a]) w):=by
 obtain⟨c,d,rfl⟩:=I;have Q:∀(q:Fn) (first p:Array Vl) (w:Wl),(Instr.makeFunc q first p).run prog w= .ok (.func q first p) w:=fun _ _ _ _=>rfl
 have s:Bs 2 a 0 ⟨#[]⟩ 0 0=true:=by unfold Bs;simp
 have t:(Ag (.flag a)).within=true:=rfl;have i:=hZ k;have z:=hZ s;have A:=hZ t;have x:=hZ ((Ac.new w [nI nX 2,.bool a,nI .u64 0,nG ⟨#[]⟩,nI nX 0,nS c 0 d] 72).alloc (nC #[.nilIface] 35));have v:=hZ (CH w (nC [nI nX 2,.bool a,nI .u64 0,nG ⟨#[]⟩,nI nX 0,nS c 0 d].toArray 72) [.nilIface] 35);have E:=k.blk.lt;clear k s t;go_enter_defers func61,ntmps61
 unfold DY
 go_wp2_with(first
  |(go_at_call 107;refine(Ck 2 a 0 ⟨#[]⟩ 0 c 0 d _).mono ?_;rintro e w1 ⟨rfl,j⟩;rw[z.o];have y:=hZ (x.o.kept j);have m:=hZ (v.o.kept j);obtain⟨Y,Z,R,S,U,V,W,X⟩:=Ac.cells6 y.o;obtain⟨B,M,L⟩:=Ac.cells1 m.o)
  |(go_at_call 106;refine(Au _ _).mono ?_;rintro e w3 ⟨rfl,rfl⟩)
  |(go_at_call 108;go_loud(have D:=hZ (i.o.kept ((((Chg.refl w []).alloc _).alloc _).trans j));refine(EO F T (.flag a) _ b sv l vs _ D.o (by simp only[Af]) A.o J).mono ?_;rintro e K ⟨rfl,r⟩;have o:=hZ r;clear r;have n:=hZ (m.o.kept o.o.chg (i.o.newNotIn (w.heap.size+1) Zj));obtain⟨O,P,N⟩:=Ac.cells1 n.o)))
 refine leaves_cons (f:=105) (args:=#[nP (nM ⟨w.heap.size+1,0,nN⟩)]) Zh (by simp[go_sem]) ?_;refine(DZ ⟨w.heap.size+1,0,nN⟩ _).mono ?_;rintro e u' aa ⟨rfl,rfl,rfl⟩;have C:(K.setCell ⟨w.heap.size+1,0,nN⟩ .nilIface).cell? ⟨w.heap.size+1,0,nN⟩=nM .nilIface:=(n.o.set 0 _).cell 0;simp[Leaves,settle,results,results61,go_sem,C];exact DA ((((Chg.refl w []).alloc _).alloc _).trans j) o.o (fun _ h=>h) (fun _ h _=>h) E (fun g H=>i.o.lst.lt H) _ Zj B (fun G=>by have:=i.o.lt _ G;omega) _
def DT(F:Nat->Prop)(T:Ti)(b:Nat)(sv:Vl)(l:List Tr)(n:Nat)(w:Wl)(e:Ending)(w':Wl):Prop:=
 if(Ag (.list (l.drop (l.length-n)))).within=true then Cx F T b sv (l.take (l.length-n)++[.list (l.drop (l.length-n))]) w e w' else Fc w e w'
theorem DT.yes{F:Nat->Prop}{T:Ti}{b:Nat}{sv:Vl}{l:List Tr}{n:Nat}{w:Wl}(h:(Ag (.list (l.drop (l.length-n)))).within=true):DT F T b sv l n w=Cx F T b sv (l.take (l.length-n)++[.list (l.drop (l.length-n))]) w:=by
 funext e w';unfold DT;rw[Qr h]
theorem DT.no{F:Nat->Prop}{T:Ti}{b:Nat}{sv:Vl}{l:List Tr}{n:Nat}{w:Wl}(h:¬(Ag (.list (l.drop (l.length-n)))).within=true):DT F T b sv l n w=Fc w:=by
 funext e w';unfold DT;rw[Qs h]
theorem Pi(F:Nat->Prop)(T:Ti)(b:Nat)(sv:Vl)(l:List Tr)(vs:List Vl)(n:Nat)(ak:Vl)(w:Wl)(z:C3 w F T b sv l vs)(a:∃p q,ak= nS p 0 q)(hF:EJ l)(hn:n<=l.length)(hl:l.length<=65536):
  Cl prog 61 #[nP (nM ⟨b,0,nN⟩),DY 5 false 0 ⟨#[]⟩ n ak] w (DT F T b sv l n w):=by
 obtain⟨p,q,rfl⟩:=a;have aL:∀(fn:Fn) (first aa:Array Vl) (w:Wl),(Instr.makeFunc fn first aa).run prog w= .ok (.func fn first aa) w:=fun _ _ _ _=>rfl
 have hu:Bs 5 false 0 ⟨#[]⟩ n 0=true:=by unfold Bs;simp
 have ai:=z.items.length;have al:Hid ((vs.drop (vs.length-n)).length=n):=by unfold Hid;rw[Qm];omega
 obtain⟨S,hS⟩:∃S,(Bk (l.drop (vs.length-n))).over 0=S:=⟨_,rfl⟩
 have Z:=hZ hS;have y:=hZ z;have HU:=hZ hu;have an:=hZ hF;have av:=hZ ai;have ar:=hZ ((Ac.new w [nI nX 5,.bool false,nI .u64 0,nG ⟨#[]⟩,nI nX n,nS p 0 q] 72).alloc (nC #[.nilIface] 35));have am:=hZ (CH w (nC [nI nX 5,.bool false,nI .u64 0,nG ⟨#[]⟩,nI nX n,nS p 0 q].toArray 72) [.nilIface] 35);have hb:=z.blk.lt;obtain⟨N,O,P⟩:=S;clear z hu hF ai hS;go_enter_defers func61,ntmps61
 unfold DY
 go_wp2_with(first
  |(go_at_call 107;refine(Ck 5 false 0 ⟨#[]⟩ n p 0 q _).mono ?_;rintro e D ⟨rfl,t⟩;rw[HU.o];have au:=hZ (ar.o.kept t);have R:=hZ (am.o.kept t);obtain⟨aT,aU,aN,aO,aP,aQ,aR,aS⟩:=Ac.cells6 au.o;obtain⟨aD,aE,aC⟩:=Ac.cells1 R.o;have V:=hZ ((((Chg.refl w []).alloc (nC [nI nX 5,.bool false,nI .u64 0,nG ⟨#[]⟩,nI nX n,nS p 0 q].toArray 72)).alloc (nC #[.nilIface] 35)).trans t);have aM:w.heap.size+2<=D.heap.size:=(by have:=t.size;simpa using this);clear t)
  |(go_at_call 106;refine(Au _ _).mono ?_;rintro e w3 ⟨rfl,rfl⟩)
  |(go_at_call 112;go_loud(have i:=hZ (y.o.kept V.o);refine(GS F T b sv l vs _ i.o n hn Zj).mono ?_;rintro e w5 ⟨v5,rfl,A,M,ag⟩;obtain⟨r,c5,rfl,_⟩:=A.form;rw[al.o]at A M|-;have H:=hZ A;have aq:=hZ M;have v:=hZ ag;clear A M ag))
  |(go_at_call 114;go_loud(
    refine(Ie (fun k=>F k\/(Vl.slice r n c5).ownBlock=nM k) (nS r n c5) (l.drop (vs.length-n)) (vs.drop (vs.length-n)) 0 w5 (H.o.rowAt fun g m=> .inr m)
     ((i.o.items.kept (v.o.keepsF i.o.lt) (fun _ h=> .inl h)).drop _) (by
      rintro k (a|a)
      .exact Q6 (i.o.lt k a) v.o.size
      .exact H.o.lt a) (an.o.drop _) (by simp;omega) Zj).mono ?_
    rintro e d ⟨rfl,ab⟩;rw[Z.o];unfold SC;have W:=hZ ab;clear ab)))
 obtain⟨c,B⟩:=Ue (d.alloc (nC #[nI nX N,nI nX O,nI nX P,nS r n c5] 227))
 rw[<-B];have j:Ac c d.heap.size [nI nX N,nI nX O,nI nX P,nS r n c5] 227:=by rw[B];exact Ac.new d _ _
 have K:Chg w5 c []:=by rw[B];exact W.o.alloc _
 have o:Chg D c []:=v.o.trans K;have ad:Chg w c []:=V.o.trans o;have az:D.heap.size<=d.heap.size:=(v.o.trans W.o).size;have aA:d.heap.size<c.heap.size:=j.lt;obtain⟨h,s⟩:∃h:Nat->Prop,h=fun k=>F k\/(D.heap.size<=k/\k<c.heap.size):=⟨_,rfl⟩
 have I:C3 c h T b sv l vs:=by
  subst s;refine i.o.grown o (fun k a=> .inl a) (fun k a=>a.imp_right And.left) (fun k a=> ?_)
  rcases a with a|a
  .have:=i.o.lt k a;have:=o.size;omega
  .exact a.2
 have aj:l.drop (l.length-n)=l.drop (vs.length-n):=by rw[av.o]
 have af:Ag (.list (l.drop (vs.length-n)))=⟨N,O,P⟩:=by
  show(Bk (l.drop (vs.length-n))).over 0=_
  exact Z.o
 have ae:Af c h (.list (l.drop (l.length-n))) (nF 136 (nP (nM ⟨d.heap.size,0,nN⟩))):=by
  rw[aj];simp only[Af];rw[af];have ah:=H.o.kept K;refine⟨d.heap.size,nS r n c5,vs.drop (vs.length-n),rfl,by rw[s];exact .inr ⟨az,aA⟩,j.cell 0,j.cell 1,j.cell 2,j.cell 3,ah.rowAt fun g m=> ?_,I.items.drop _⟩;rw[s];exact .inr ⟨aq.o g m,ah.lt m⟩
 have E:=R.o.kept o;have U:=hZ E;have ap:=hZ I;have Y:=hZ ae;have X:=hZ ad;have aB:=hZ o;have G:=hZ s;obtain⟨ax,aJ,aI⟩:=Ac.cells1 E;clear B j K o ad I aj af ae E s;by_cases C:(Ag (.list (l.drop (l.length-n)))).within=true
 .refine(I0 h T _ _ b sv l vs n _ ap.o Y.o C hn Zj).mono ?_
  rintro e Q ⟨rfl,J⟩;have HP:=hZ J
  have x:=hZ (U.o.kept J.chg (fun u=>by
   simp only[Qh,Option.mem_toList]at u
   rcases u with u|u
   .omega
   .have:=y.o.lst.lt u;omega))
  obtain⟨aG,aH,aF⟩:=Ac.cells1 x.o;clear J;go_wp2_with fail
  refine leaves_cons (f:=105) (args:=#[nP (nM ⟨w.heap.size+1,0,nN⟩)]) Zh (by simp[go_sem]) ?_;refine(DZ ⟨w.heap.size+1,0,nN⟩ _).mono ?_;rintro e u' aV ⟨rfl,rfl,rfl⟩;have aw:(Q.setCell ⟨w.heap.size+1,0,nN⟩ .nilIface).cell? ⟨w.heap.size+1,0,nN⟩=nM .nilIface:=(x.o.set 0 _).cell 0;simp[Leaves,settle,results,results61,go_sem,aw];rw[DT.yes C];refine DA X.o HP.o (fun k a=>by rw[G.o];exact .inl a) (fun k a aK=> ?_) hb (fun g m=>y.o.lst.lt m) _ Zj ax (fun hf=> ?_) _
  .rw[G.o]at a
   rcases a with a|a
   .exact a
   .omega
  .rw[G.o]at hf
   rcases hf with a|a
   .have:=y.o.lt _ a;omega
   .omega
 .rw[DT.no C]
  have ay:(Ag (.list (l.drop (l.length-n)))).within=false:=by simpa using C
  refine(IZ h _ _ b n _ Y.o ay).mono ?_;rintro e Q ⟨rfl,L⟩;have x:=hZ (U.o.kept L);have ao:=hZ L;clear L;go_wp2_with fail
  exact D2 w Q _ _ (w.heap.size+1) rfl rfl x.o (X.o.trans ao.o) Zj
theorem Ml(b:Nat)(n:Nat)(v:Vl)(w:Wl)(C:∃c d,v= nS c 0 d)(k:n<18446744073709551616)(h:Fl.Fh n=false):
  Cl prog 61 #[nP (nM ⟨b,0,nN⟩),DY 3 false n ⟨#[]⟩ 0 v] w (Fc w):=by
 obtain⟨c,d,rfl⟩:=C;have M:∀(t:Fn) (first s:Array Vl) (w:Wl),(Instr.makeFunc t first s).run prog w= .ok (.func t first s) w:=fun _ _ _ _=>rfl
 have L:=GW;have m:Bs 3 false n ⟨#[]⟩ 0 0=true:=by unfold Bs;simp
 have r:=hZ m;have y:=hZ k;have q:=hZ ((Ac.new w [nI nX 3,.bool false,nI .u64 n,nG ⟨#[]⟩,nI nX 0,nS c 0 d] 72).alloc (nC #[.nilIface] 35));have p:=hZ (CH w (nC [nI nX 3,.bool false,nI .u64 n,nG ⟨#[]⟩,nI nX 0,nS c 0 d].toArray 72) [.nilIface] 35);have u:¬Fl.A7 n<9218868437227405312:=by unfold Fl.Fh at h;simpa using h
 by_cases l:9218868437227405312<Fl.A7 n
 .have i:=UD (decide (9218868437227405312<Fl.A7 n)=true) (by simp[l])
  clear m k h u l;go_enter_defers func61,ntmps61
  unfold DY
  go_wp2_with(first
   |(go_at_call 107;refine(Ck 3 false n ⟨#[]⟩ 0 c 0 d _).mono ?_;rintro e o ⟨rfl,a⟩;rw[r.o];have j:=hZ (q.o.kept a);have g:=hZ (p.o.kept a);obtain⟨J,K,D,E,F,G,H,I⟩:=Ac.cells6 j.o;obtain⟨A,B,z⟩:=Ac.cells1 g.o)
   |(go_at_call_of 106 (Vl.bool true);refine(Au _ _).mono ?_;rintro e f ⟨rfl,rfl⟩)
   |(go_at_call 106;refine(CD _ _).mono ?_;rintro e f ⟨rfl,rfl⟩)
   |(go_at_call 110;refine(FO n _).mono ?_;rintro e f ⟨rfl,rfl⟩;rw[i.o]))
  exact D2 w o _ _ (w.heap.size+1) rfl rfl g.o ((((Chg.refl w []).alloc _).alloc _).trans a) Zj
 .have i:=UD (decide (9218868437227405312<Fl.A7 n)=false) (by simp;omega)
  have x:=UD (decide (Fl.A7 n=9218868437227405312)=true) (by simp;omega);clear m k h u l;go_enter_defers func61,ntmps61
  unfold DY
  go_wp2_with(first
   |(go_at_call 107;refine(Ck 3 false n ⟨#[]⟩ 0 c 0 d _).mono ?_;rintro e o ⟨rfl,a⟩;rw[r.o];have j:=hZ (q.o.kept a);have g:=hZ (p.o.kept a);obtain⟨J,K,D,E,F,G,H,I⟩:=Ac.cells6 j.o;obtain⟨A,B,z⟩:=Ac.cells1 g.o)
   |(go_at_call_of 106 (Vl.bool true);refine(Au _ _).mono ?_;rintro e f ⟨rfl,rfl⟩)
   |(go_at_call 106;refine(CD _ _).mono ?_;rintro e f ⟨rfl,rfl⟩)
   |(go_at_call 110;refine(FO n _).mono ?_;rintro e f ⟨rfl,rfl⟩;rw[i.o])
   |(go_at_call 111;refine(bJ n y.o _).mono ?_;rintro e f ⟨rfl,rfl⟩;rw[x.o]))
  exact D2 w o _ _ (w.heap.size+1) rfl rfl g.o ((((Chg.refl w []).alloc _).alloc _).trans a) Zj
theorem Hf(b:Nat)(s:BY)(z:Vl)(w:Wl)(J:∃d f,z= nS d 0 f)(x:s.size<=2147483648)(m:Utf.Al s=false\/(Ag (.text s)).within=false):
  Cl prog 61 #[nP (nM ⟨b,0,nN⟩),DY 4 false 0 s 0 z] w (Fc w):=by
 obtain⟨d,f,rfl⟩:=J;have aa:∀(t:Fn) (first r:Array Vl) (w:Wl),(Instr.makeFunc t first r).run prog w= .ok (.func t first r) w:=fun _ _ _ _=>rfl
 have n:Bs 4 false 0 s 0 0=true:=by unfold Bs;simp
 have q:=hZ n;have p:=hZ ((Ac.new w [nI nX 4,.bool false,nI .u64 0,nG s,nI nX 0,nS d 0 f] 72).alloc (nC #[.nilIface] 35));have o:=hZ (CH w (nC [nI nX 4,.bool false,nI .u64 0,nG s,nI nX 0,nS d 0 f].toArray 72) [.nilIface] 35);by_cases j:Utf.Al s=true
 .have y:(Ag (.text s)).within=false:=m.resolve_left (by simp[j])
  have k:=hZ j;have C:=hZ y;clear n m j y;go_enter_defers func61,ntmps61
  unfold DY
  go_wp2_with(first
   |(go_at_call 107;refine(Ck 4 false 0 s 0 d 0 f _).mono ?_;rintro e w1 ⟨rfl,a⟩;rw[q.o];have i:=hZ (p.o.kept a);have g:=hZ (o.o.kept a);obtain⟨Q,R,K,L,M,N,O,P⟩:=Ac.cells6 i.o;obtain⟨E,F,D⟩:=Ac.cells1 g.o)
   |(go_at_call 106;refine(Au _ _).mono ?_;rintro e A ⟨rfl,rfl⟩)
   |(go_at_call 101;refine(Dq s _ x).mono ?_;rintro e w2 ⟨rfl,c⟩;rw[k.o];have l:=hZ (i.o.kept c);have h:=hZ (g.o.kept c);obtain⟨Y,Z,S,T,U,V,W,X⟩:=Ac.cells6 l.o;obtain⟨H,I,G⟩:=Ac.cells1 h.o)
   |(go_at_call 108;go_loud(refine(Rm (fun _=>False) (.text s) _ b _ (by simp only[Af]) C.o).mono ?_;rintro e w4 ⟨rfl,u⟩;have B:=hZ (h.o.kept u))))
  exact D2 w w4 _ _ (w.heap.size+1) rfl rfl B.o (((((Chg.refl w []).alloc _).alloc _).trans (a.trans c)).trans u) Zj
 .have v:Utf.Al s=false:=by simpa using j
  have k:=hZ v;clear n m j v;go_enter_defers func61,ntmps61
  unfold DY
  go_wp2_with(first
   |(go_at_call 107;refine(Ck 4 false 0 s 0 d 0 f _).mono ?_;rintro e w1 ⟨rfl,a⟩;rw[q.o];have i:=hZ (p.o.kept a);have g:=hZ (o.o.kept a);obtain⟨Q,R,K,L,M,N,O,P⟩:=Ac.cells6 i.o;obtain⟨E,F,D⟩:=Ac.cells1 g.o)
   |(go_at_call_of 106 (Vl.bool true);refine(Au _ _).mono ?_;rintro e A ⟨rfl,rfl⟩)
   |(go_at_call 106;refine(CD _ _).mono ?_;rintro e A ⟨rfl,rfl⟩)
   |(go_at_call 101;refine(Dq s _ x).mono ?_;rintro e w2 ⟨rfl,c⟩;rw[k.o];have l:=hZ (i.o.kept c);have h:=hZ (g.o.kept c);obtain⟨Y,Z,S,T,U,V,W,X⟩:=Ac.cells6 l.o;obtain⟨H,I,G⟩:=Ac.cells1 h.o))
  exact D2 w w2 _ _ (w.heap.size+1) rfl rfl h.o ((((Chg.refl w []).alloc _).alloc _).trans (a.trans c)) Zj
theorem Kq(F:Nat->Prop)(T:Ti)(b:Nat)(sv:Vl)(l:List Tr)(vs:List Vl)(n:Int)(m:Vl)(w:Wl)(i:C3 w F T b sv l vs)(v:∃a c,m= nS a 0 c)(x:(l.length:Int)<n):
  Cl prog 61 #[nP (nM ⟨b,0,nN⟩),DY 5 false 0 ⟨#[]⟩ n m] w (Fc w):=by
 obtain⟨a,c,rfl⟩:=v;have C:∀(h:Fn) (first g:Array Vl) (w:Wl),(Instr.makeFunc h first g).run prog w= .ok (.func h first g) w:=fun _ _ _ _=>rfl
 have k:Bs 5 false 0 ⟨#[]⟩ n 0=true:=by unfold Bs;simp;omega
 have r:=hZ i;have u:=hZ k;have s:=hZ ((Ac.new w [nI nX 5,.bool false,nI .u64 0,nG ⟨#[]⟩,nI nX n,nS a 0 c] 72).alloc (nC #[.nilIface] 35));have o:=hZ (CH w (nC [nI nX 5,.bool false,nI .u64 0,nG ⟨#[]⟩,nI nX n,nS a 0 c].toArray 72) [.nilIface] 35);clear i k;go_enter_defers func61,ntmps61
 unfold DY
 go_wp2_with(first
  |(go_at_call 107;refine(Ck 5 false 0 ⟨#[]⟩ n a 0 c _).mono ?_;rintro e M ⟨rfl,d⟩;rw[u.o];have t:=hZ (s.o.kept d);have f:=hZ (o.o.kept d);obtain⟨K,L,D,E,G,H,I,J⟩:=Ac.cells6 t.o;obtain⟨A,B,z⟩:=Ac.cells1 f.o)
  |(go_at_call 106;refine(Au _ _).mono ?_;rintro e N ⟨rfl,rfl⟩)
  |(go_at_call 112;go_loud(have q:=hZ (r.o.kept ((((Chg.refl w []).alloc _).alloc _).trans d));refine(JS F T b sv l vs _ q.o n x).mono ?_;rintro e y ⟨rfl,j⟩;have p:=hZ (f.o.kept j))))
 exact D2 w y _ _ (w.heap.size+1) rfl rfl p.o (((((Chg.refl w []).alloc _).alloc _).trans d).trans j) Zj
theorem Ek(b:Nat)(c:Option Addr)(a d:Nat)(w:Wl)(k:∀g,Chg w g []->Cl prog 115 #[nP (nM ⟨b,0,nN⟩),nS c a d] g (PT g)):
  Cl prog 61 #[nP (nM ⟨b,0,nN⟩),DY 6 false 0 ⟨#[]⟩ 0 (nS c a d)] w (Fc w):=by
 have y:∀(j:Fn) (first i:Array Vl) (w:Wl),(Instr.makeFunc j first i).run prog w= .ok (.func j first i) w:=fun _ _ _ _=>rfl
 have m:Bs 6 false 0 ⟨#[]⟩ 0 a=true:=by unfold Bs;simp
 have s:=hZ m;have p:=hZ k;have q:=hZ ((Ac.new w [nI nX 6,.bool false,nI .u64 0,nG ⟨#[]⟩,nI nX 0,nS c a d] 72).alloc (nC #[.nilIface] 35));have n:=hZ (CH w (nC [nI nX 6,.bool false,nI .u64 0,nG ⟨#[]⟩,nI nX 0,nS c a d].toArray 72) [.nilIface] 35);clear m k;go_enter_defers func61,ntmps61
 unfold DY
 go_wp2_with(first
  |(go_at_call 107;refine(Ck 6 false 0 ⟨#[]⟩ 0 c a d _).mono ?_;rintro e I ⟨rfl,f⟩;rw[s.o];have r:=hZ (q.o.kept f);have h:=hZ (n.o.kept f);obtain⟨G,H,A,B,C,D,E,F⟩:=Ac.cells6 r.o;obtain⟨v,x,u⟩:=Ac.cells1 h.o)
  |(go_at_call 106;refine(Au _ _).mono ?_;rintro e J ⟨rfl,rfl⟩)
  |(go_at_call 115;go_loud(refine(p.o _ ((((Chg.refl w []).alloc _).alloc _).trans f)).mono ?_;rintro e t ⟨⟨z,rfl⟩,l⟩;have o:=hZ (h.o.kept l))))
 exact D2 w t _ _ (w.heap.size+1) rfl rfl o.o (((((Chg.refl w []).alloc _).alloc _).trans f).trans l) Zj
end
end Go.Proofs.YtkfnkppdhcaeoaaGreatDoor

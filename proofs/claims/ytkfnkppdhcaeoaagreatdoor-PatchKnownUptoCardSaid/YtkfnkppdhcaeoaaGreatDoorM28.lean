/- Part 28 of the proof of coreBase. -/
import Derived.Deep.DeepHandedRow
import Derived.Deep.DeepWitnessRowRef
import Derived.Lib.AppendZeros
import Derived.Lib.LaidIn
import Derived.OpenShut
import Derived.ProofKit
import Derived.SizedLaws
import Derived.Stop.LaidErr
import Derived.Test.YtkfnkppdhcaeoaaGreatDoorCards
import Derived.Test.YtkfnkppdhcaeoaaGreatDoorTie
import Derived.WideKeyArgs
import Derived.Test.YtkfnkppdhcaeoaaGreatDoorM27
set_option maxRecDepth 100000
set_option maxHeartbeats 32000000
set_option linter.all false
namespace Go.Proofs.YtkfnkppdhcaeoaaGreatDoor
open Go renaming Calls->Cl,TypeId->Ti,Value->Vl,World->Wl
open Go.Value renaming agg->nA,iface->nF,int->nI,pointer->nP,slice->nS,string->nG,tuple->nT
open Go.IntKind renaming i64->nX
open Go.Ending renaming returned->nR
open Go.Obj renaming cells->nC
open Option renaming none->nN,some->nM
section
open _root_.Go.Proofs.Tryz
open Go Go.Shelf Go.RowKit Go.Lib Tree Ptr
theorem JK:(prog.info? 42).map (fun i=>(i.zero,i.size,i.bytes))=nM (nM (nA #[nI nX 0,nG ⟨#[]⟩,nG ⟨#[]⟩,nS nN 0 0]),4,64):=Yb
theorem Yo{t b:Tr}{o:Bq}{v:List CW}(h:Gz t o= .yes b v):v.length<=2:=by
 unfold Gz at h;split at h
 .cases h
 .unfold Da at h
  repeat' split at h
  all_goals first
   |(obtain⟨_,_,rfl,_⟩:=Fd h;simp)
   |(obtain⟨_,rfl,_⟩:=Ib h;simp)
   |(injection h with c a;subst a;simp)
   |cases h
theorem Sa:∀{l:List Bq} {t b:Tr} {u v:List CW} {i:Nat},BR t u i l= .yes b v->v.length<=u.length+2*l.length
 |[],t,b,u,v,i,h=>by simp[BR]at h;rw[h.2];simp
 |o::l,t,b,u,v,i,h=>by
  simp only[BR]at h
  cases a:Gz t o with
  |no e=>rw[a]at h;cases h
  |yes c w=>
   rw[a]at h;have:=Sa h;have:=Yo a;simp only[Qk,Qj]at*;omega
theorem Eh.one{w:Wl}{F:Nat->Prop}{l:List Bq}{xs:List Vl}(h:Eh w F l xs):∀u∈xs,u.oneCell'=true:=Cc.one h.toIn
theorem AK.maxLe{w:Wl}{sv:Vl}{e:Ti}{vs:List Vl}(h:AK w sv e vs):vs.length<=9223372036854775807:=by
 rcases h.2 with⟨d,f⟩|⟨g,b,c,j,_,_,i,a,_⟩
 .omega
 .unfold maxLen at a;omega
def Jz(r:Zi)(w:Wl)(e:Ending)(w':Wl):Prop:=match r with
 | .no k i=>e= nR (nT #[nS nN 0 0,Hk k i])/\Chg w w' []
 | .yes _ u=>if 65536<u.length then e= nR (nT #[nS nN 0 0,nF 50 (nI nX 3)])/\Chg w w' []else
  ∃a xs G,e= nR (nT #[a,.nilIface])/\EW w w' (u.map CW.toI) a xs G/\Chg w w' []
theorem Xn(F:Nat->Prop)(tb:Nat)(t:Tr)(E:List Bq)(so:Vl)(xs:List Vl)(w:Wl)(h:Yc w F tb t E so xs):
  Cl prog 21 #[nP (nM ⟨tb,0,nN⟩),so] w (Jz (BR t [] 0 E) w):=by
 have m:=Xs t F tb E so xs w h.laid h.big h.tree h.lt h.fine h.row h.at_ h.small h.many;unfold Fb at m;obtain⟨sa,sc,rfl,_⟩:=h.row.form;have ai:=h.many;obtain⟨nl,Y⟩:=Ue E.length
 rw[<-Y]at m|-
 cases C:BR t [] 0 E with
 |no k i=>
  rw[C]at m;have R:=hZ m;clear m C h Y ai;go_enter func21,ntmps21
  go_wp2_with((go_at_call 43;refine R.o.mono ?_;rintro e y ⟨rfl,a⟩;have z:=hZ a;clear a))
  go_ret2
  exact⟨rfl,z.o⟩
 |yes t' u=>
  rw[C]at m;have am:u.length<=131072:=by have:=Sa C;simp at this;omega
  have af:=hZ am;have R:=hZ m;clear m C h Y ai am;go_enter func21,ntmps21
  go_wp2_with((go_at_call 43;refine R.o.mono ?_;rintro e y ⟨⟨W,f,v,uv,bs,vs,G,rfl,x,ah⟩,a⟩;have z:=hZ a;have T:=hZ x;have ad:=hZ ah;obtain⟨ua,uc,rfl,al⟩:=x.row.form;have c3:=x.wat.blk.cell 3;simp only[Qa,Qb]at c3;have lW:=x.wat.blk.lt;have av:=hZ al;have U:=hZ x.grp.length;have aA:=x.row.maxLe;clear a x ah al))
  obtain⟨n,X⟩:=Ue vs.length
  have S:=hZ X;have M:=UD (f.flatten.length=u.length) (by have:=congrArg List.length ad.o;simpa using this);rw[<-X]at c3 aA|-;clear X;go_loopw [25,8] (fun aa v8 wr=>∃(i:Nat) (d:List UF) (q:Option Addr) (K:Nat),i<=n/\aa= nI nX i/\v8= nS q d.length K/\Ba wr v8 42 4 d.length (d.flatMap D0)/\Eh y G (f.take i).flatten (d.flatMap D0)/\d.length=(f.take i).flatten.length/\Chg y wr []/\(∀g,v8.ownBlock=nM g->y.heap.size<=g)) (fun aa _ _=>n-(intOf aa).toNat)
  case atStart=>exact⟨0,[],nN,0,Zj,rfl,rfl,Ba.nil _ _ _,rfl,rfl,Chg.refl _ _,fun g c=>by cases c⟩
  case round=>
   obtain⟨i,d,q,K,hi,rfl,rfl,hL,hF,ag,hc,aj⟩:=hrel;have I:=hZ hL;have HF:=hZ hF;have ab:=hZ ag;have l:=hZ hc;have A:=hZ aj
   have aD:d.length<=131072:=by
    have a:(f.take i).flatten.length<=f.flatten.length:=by
     conv=>rhs;rw[<-List.take_append_drop i f]
     rw[List.flatten_append,Qk];omega
    have:=M.o;have:=af.o;omega
   clear hL hF ag hc aj;by_cases aE:i<n
   .obtain⟨os,O⟩:∃os,f[i]? =nM os:=⟨_,Q9 (by have:=U.o;have:=S.o;omega)⟩
    obtain⟨sl,ys,Q,P,ax,N⟩:=T.o.grp.get i os O;obtain⟨ug,rfl⟩:=av.o (by intro e;rw[e]at Q;simp at Q);have c4:wr.cell? ⟨ug,i,nN⟩=nM sl:=l.o.keeps (T.o.row.cell rfl i _ Q);obtain⟨B,V,rfl⟩:=N.enc;obtain⟨la,lc,rfl,_⟩:=P.form;rw[<-V]at P c4;have au:=hZ (P.kept l.o)
    have aF:B.length<=131072:=by
     have a:os.length<=f.flatten.length:=by
      have:=List.sublist_flatten_of_mem (Qi O);exact this.length_le
     have:=M.o;have:=af.o;omega
    have ao:=hZ N.one;have ap:=hZ N;have an:=hZ V;have aq:=hZ O;clear Q P ax N V O;go_wp2_with(refine Fs rfl _ _ 23 rfl 42 _ 4 64 ZM underlying23 JK rfl (nS q d.length K) d.length (d.flatMap D0) ZN I.o B.length (B.flatMap D0) (nS la B.length lc) ZN au.o ao.o Zj Zj ?_;intro q2 aw w3 p r k3;have J:=hZ p;have s:=hZ r;have K3:=hZ k3;clear p r k3)
    go_roundw
    case rel=>
     have L:(f.take (i+1)).flatten=(f.take i).flatten++os:=by rw[Cb aq.o,List.flatten_append];simp
     refine⟨i+1,d++B,q2,aw,Zj,by go_num,by rw[Qk], ?_, ?_, ?_, ?_, ?_⟩
     .rw[List.flatMap_append,Qk];exact J.o
     .rw[L,List.flatMap_append];exact HF.o.append ap.o
     .rw[L,Qk,Qk,ab.o,an.o]
     .exact l.o.fresh s.o fun g c=>A.o g (by simpa using c)
     .intro g c
      rcases K3.o g c with h|h
      .exact A.o g h
      .have:=l.o.size;omega
    case measure=>simp[intOf];omega
   .obtain rfl:i=n:=by omega
    have W:d.length=u.length:=by
     have a:=ab.o;rw[Qn (by have:=U.o;have:=S.o;omega)]at a;rw[a,M.o]
    have ak:Eh y G (u.map CW.toI) (d.reverse.flatMap D0):=by
     have a:=HF.o;rw[Qn (by have:=U.o;have:=S.o;omega)]at a;rw[<-ad.o];exact PU (by rw[M.o];exact W) a
    have ar:=hZ ak;have ae:=hZ (YO d _ wr I.o Zj);have H:=hZ W;clear ak W;by_cases aC:(65536:Int)<(d.length:Int)
    .go_wp2_with((go_at_call 47;refine ae.o.mono ?_;rintro e w5 ⟨rfl,p,r⟩;have J:=hZ p;have s:=hZ r;clear p r))
     go_ret2
     have Z:65536<u.length:=by have:=H.o;omega
     show Jz (.yes t' u) w _ _
     unfold Jz
     dsimp only
     rw[Qr Z];exact⟨rfl,(z.o.trans l.o).fresh s.o fun g c=>by have:=A.o g (by simpa using c);have:=z.o.size;omega⟩
    .go_wp2_with((go_at_call 47;refine ae.o.mono ?_;rintro e w5 ⟨rfl,p,r⟩;have J:=hZ p;have s:=hZ r;clear p r))
     go_ret2
     have Z:¬65536<u.length:=by have:=H.o;omega
     show Jz (.yes t' u) w _ _
     unfold Jz
     dsimp only
     rw[Qs Z];have hG:∀b,G b->w.heap.size<=b/\b<y.heap.size:=T.o.gnew
     have hk:BZ G y w5:=(l.o.fresh s.o fun g c=>A.o g (by simpa using c)).keepsF (fun b j=>(hG b j).2);have aG:=z.o.size;have aH:=l.o.size;have aI:=s.o.size;refine⟨_,d.reverse.flatMap D0,fun b=>G b\/(Vl.slice q d.length K).ownBlock=nM b,rfl,⟨?_,fun b o n' c' e=> ?_,ar.o.kept hk fun b j=> .inl j,fun b j=> ?_⟩,(z.o.trans l.o).fresh s.o fun g c=>by have:=A.o g (by simpa using c);omega⟩
     .have:=J.o
      rw[H.o]at this;rw[List.length_map,H.o];exact this
     .injection e with L e2 e3
      subst L
      right
      rcases I.o.2 with⟨a,_⟩|⟨g,cp,aB,D,_⟩
      .injection a with a;cases a
      .injection D with D
       injection D with D
       injection D with ay az
       subst ay;subst az;rfl
     .rcases j with j|j
      .have:=hG b j;omega
      .have a:=A.o b j
       have h2:=I.o.lt j;omega
theorem Wk{t:Tr}(a:Bt t){l:List Ap}(f:l=(Ai t).map Aw.toI){b:Vl}{xs:List Vl}{w:Wl}(c:As w b 6 l.length xs)(d:Az w l xs):Cl prog 28 #[b] w (F9 t w):=by
 subst f;refine(Fk _ b xs w c d (KI a) ?_).mono fun e w' h=>BO.steps a h
 have:=(Ar a.fits).1;rw[List.length_map,BL];omega
theorem PE:∀o∈DH,T7 o:=by
 intro o a;have b:=Lj o a;simp only[DH,Qh,List.not_mem_nil,or_false]at a
 rcases a with rfl|rfl
 .exact⟨ZM,ZM,b.steps,ZM⟩
 .exact⟨ZM,ZM,b.steps,ZM⟩
theorem Yp:Bt T1:=⟨⟨WJ,rfl,⟨Xb,Xe,Xc,trivial⟩,trivial⟩,ZM⟩
theorem Yq:Bt (.obj [kC] [.null]):=⟨⟨Rc,rfl,trivial,trivial⟩,ZM⟩
theorem TS:∀o∈Fa.map CW.toI,T7 o:=by
 intro o a;simp only[Fa,List.map_cons,List.map_nil,Qh,List.not_mem_nil,or_false]at a
 rcases a with rfl|rfl
 .exact⟨ZM,ZM,KI Yq,ZM⟩
 .exact⟨ZM,ZM,(fun s b=>by cases b),ZM⟩
def Vh(A:Nat):List Vl:=BJ Z5 (nS (nM ⟨A,0,nN⟩) 1 1)++(BJ ak IQ++[])
theorem YE{w:Wl}{A:Nat}(a:Ac w A (AI (Fv f9) IQ) 72):Cc w DH (Vh A):=
 ⟨nS (nM ⟨A,0,nN⟩) 1 1,AI (Fv f9) IQ++[],_,rfl,As.ofBlk a rfl,Az.cons (As.nil w 1) rfl,⟨IQ,[],_,rfl,As.nil w 6,rfl,rfl⟩⟩
def UA(A:Nat):List Vl:=AI (Fv f1) IQ++(AI (Fv f9) IQ++(AI (Fv f2) IQ++(AI (Un 3) IQ++(AI (Ve [kA]) (nS (nM ⟨A,0,nN⟩) 1 1)++[]))))
theorem Y1{w:Wl}{A B:Nat}(a:Ac w A (Ad [kA]) 9)(b:Ac w B (UA A) 72):DX w (nS (nM ⟨B,0,nN⟩) 5 5) Ln:=
 SL (As.ofBlk b rfl) (Az.cons (As.nil _ 1) (Az.cons (As.nil _ 1) (Az.cons (As.nil _ 1) (Az.cons (As.nil _ 1) (Az.cons (As.ofBlk a rfl) rfl)))))
theorem V3:∀s∈Ln,s.keys.length<=4294967296:=by
 intro s a;simp only[Ln,Qh,List.not_mem_nil,or_false]at a
 rcases a with rfl|rfl|rfl|rfl|rfl<;>decide
theorem Ko(w:Wl)(hL:Br w)(af:10<=w.heap.size):Cl prog 13 #[] w (BU true w):=by
 have HL:=hZ hL;have X:=hZ af;clear hL af;go_enter func13,ntmps13
 go_wp2_with(first
  |(go_at_call 33;refine(Tc w).mono ?_;rintro e w1 ⟨g,xs,rfl,B,C,D⟩;have K1:=hZ B;have K2:=hZ C;have K3:=hZ D;clear B C D)
  |(go_at_call 28;refine(Wk LH PA K1.o K2.o).mono ?_;rintro e w2 ⟨F,p,rfl,q1,q2,q3,_⟩;have Q1:=hZ q1;have S:=hZ q2;have I:=hZ (K3.o.trans q3);clear q1 q2 q3)
  |(go_at_call 31;refine(Ph f9 _).mono ?_;rintro e q ⟨rfl,h⟩;have Y:=UD (Chg w2 q []) h;clear h))
 obtain⟨A,J⟩:=Ue q.heap.size
 obtain⟨E,y⟩:=Ue ((q.alloc (nC (AI (Fv f9) IQ).toArray 72)).alloc (nC (Vh q.heap.size).toArray 42))
 have o:Chg w2 E []:=by rw[y];exact(Y.o.alloc _).alloc _
 have u:Ac E A (AI (Fv f9) IQ) 72:=by rw[y,J];exact(Ac.new _ _ _).alloc _
 have v:Ac E (A+1) (Vh A) 42:=by rw[y,J];exact BD _ _ _ _ _ rfl Zh
 have P:Hid (Yc E F p T0 DH (nS (nM ⟨A+1,0,nN⟩) 2 2) (Vh A)):=Lib.hid
  ⟨HL.o.kept (I.o.trans o),Q7 X.o (I.o.trans o).size,Q1.o.kept o S.o,fun b a=>Q6 (S.o b a) o.size,LH,As.ofBlk v rfl,YE u,PE,ZM⟩
 have ad:=hZ (I.o.trans o);change Cl _ _ _ ((q.alloc (nC (AI (Fv f9) IQ).toArray 72)).alloc (nC (Vh q.heap.size).toArray 42)) _;rw[<-y,<-J];clear y J o u v Y Q1 S I K1 K2 K3;refine Calls.mono (IB F p T0 DH _ _ E P.o) ?_;rw[KL];rintro e N ⟨n,M,rfl,f,c,i,_⟩;have R1:=hZ f;have d:=hZ c;have T:=hZ i;clear f c i
 go_wp2_with(first
  |(go_at_call 31;refine(Ph _ _).mono ?_;rintro e l ⟨rfl,h⟩;(first|(have S3:=UD (Chg N l []) (S2.o.trans h))|(have S2:=UD (Chg N l []) (S1.o.trans h))|(have S1:=UD (Chg N l []) h));clear h))
 obtain⟨r,K⟩:=Ue l.heap.size
 obtain⟨j,z⟩:=Ue ((l.alloc (nC (Ad [kA]).toArray 9)).alloc (nC (UA l.heap.size).toArray 72))
 have x:Chg N j []:=by rw[z];exact(S3.o.alloc _).alloc _
 have u:Ac j r (Ad [kA]) 9:=by rw[z,K];exact(Ac.new _ _ _).alloc _
 have v:Ac j (r+1) (UA r) 72:=by rw[z,K];exact BD _ _ _ _ _ rfl Zh
 have ae:=UD (DX j (nS (nM ⟨r+1,0,nN⟩) 5 5) Ln) (Y1 u v);have t:=UD (Yc j F p T0 DH (nS (nM ⟨A+1,0,nN⟩) 2 2) (Vh A)) (P.o.kept (T.o.trans x));have H:=hZ (ad.o.trans (T.o.trans x));have m:=UD (CG j n M T1/\∀b,n b->b<j.heap.size) ⟨R1.o.kept x d.o,fun b a=>Q6 (d.o b a) x.size⟩;change Cl _ _ _ ((l.alloc (nC (Ad [kA]).toArray 9)).alloc (nC (UA l.heap.size).toArray 72)) _;rw[<-z,<-K];clear z K x u v S1 S2 S3 R1 d T P ad;refine Calls.mono (Xn F p T0 DH _ _ j t.o) ?_;rw[KL];rintro e W ak;obtain⟨L,ys,G,rfl,f,c⟩:∃L xs G,e= nR (nT #[L,.nilIface])/\EW j W (Fa.map CW.toI) L xs G/\Chg j W []:=ak
 have V:=IB n M T1 (Fa.map CW.toI) L ys W ⟨HL.o.kept (H.o.trans c),Q7 X.o (H.o.trans c).size,m.o.1.kept c m.o.2,fun b a=>Q6 (m.o.2 b a) c.size,Yp,f.row,f.ops.toIn,TS,ZM⟩;obtain⟨U,hU⟩:=T5;rw[hU]at V;have aa:=hZ V;have d:=hZ c;obtain⟨sa,sc,rfl,_⟩:=f.row.form;clear f c V hU;go_wp2_with fail
 refine aa.o.mono ?_;rintro e k ⟨O,ag,rfl,f,c,i,_⟩;have ab:=UD (CG k n M T1/\∀b,n b->b<k.heap.size) ⟨m.o.1.kept (d.o.trans i) m.o.2,fun b a=>Q6 (m.o.2 b a) (d.o.trans i).size⟩;have Q:=UD (CG k F p T0/\∀b,F b->b<k.heap.size) ⟨t.o.tree.kept (d.o.trans i) t.o.lt,fun b a=>Q6 (t.o.lt b a) (d.o.trans i).size⟩;have R:=UD (CG k O ag T0/\∀b,O b->b<k.heap.size) ⟨f,c⟩;have aj:=UD (DX k (nS (nM ⟨r+1,0,nN⟩) 5 5) Ln) (ae.o.kept (d.o.trans i));have H6:=hZ (H.o.trans (d.o.trans i));clear f c i aa ae t H m d
 go_wp2_with(first
  |(go_at_call 38;refine(TY n M T1 k ab.o.1 ab.o.2 ZM).mono ?_;rintro e w7 ⟨g7,al,G7,am,rfl,B,C,D,k4,k5⟩;have ai:=UD (DX w7 _ Ln) (PW B C k5 rfl);have Z:=hZ D;clear B C D k4 k5)
  |(go_at_call 37;refine(Rf Ln _ _ w7 ai.o (aj.o.kept Z.o) ZM V3).mono ?_;rintro e w8 ⟨rfl,h8⟩;have s:=hZ (Z.o.trans h8);clear h8)
  |(go_at_call 23;refine(OL O F ag p T0 w8 (R.o.1.kept s.o R.o.2) (Q.o.1.kept s.o Q.o.2) (fun b a=>Q6 (R.o.2 b a) s.o.size) (fun b a=>Q6 (Q.o.2 b a) s.o.size) LH).mono ?_;rintro e w9 ⟨rfl,h9⟩;have ah:=hZ (s.o.trans h9);clear h9))
 go_ret
 exact⟨rfl,H6.o.trans ah.o⟩
end
section
open Go Go.Shelf Go.RowKit Go.Lib Tree Ptr
theorem E7{w:Wl}{F:Nat->Prop}{t:Tr}{cs:List Vl}(h:AL w F t cs):(∀u∈cs,u.oneCell'=true)/\cs.length=6:=by
 obtain⟨c,d,a,b,ys,rfl,_⟩:=h.uni;exact⟨Mz _ _ _ _ _ _ _ _ _ _,rfl⟩
theorem Ya:∀u∈zV,u.oneCell'=true:=Mz 0 false 0 ⟨#[]⟩ nN nN 0 0 0 0
structure KR(w4:Wl)(R B:Nat)(cs:List Vl)(T:Ti)(s:Nat)(V:Nat->Vl->Prop)(d:Nat->Bool)(f:Nat->Vl)(w:Wl):Prop where
 chg:Chg w4 w [R]
 src:Ac w B cs T
 ne:B≠R
 old:∃ds,Ac w R ds T/\ds.length=cs.length
 dst:d s=true->Ac w R cs T
 vals:∀j,d j=true->V j (f j)
theorem KR.put{b:Wl}{R B:Nat}{cs:List Vl}{T:Ti}{s:Nat}{V:Nat->Vl->Prop}{d:Nat->Bool}{f:Nat->Vl}{w:Wl}{j:Nat}{y:Vl}(h:KR b R B cs T s V d f w)(c:j≠s)(g:V j y):KR b R B cs T s V (BA d j) (Eb f j y) w:=
 ⟨h.chg,h.src,h.ne,h.old,by rw[An d (Ne.symm c)];exact h.dst,fun k a=>by
  by_cases e:k=j
  .subst e;rw[Bf];exact g
  .rw[AA f y e];rw[An d e]at a;exact h.vals k a⟩
end
section
open _root_.Go.Proofs.Tryz
open Go Go.Shelf Go.RowKit Go.Lib Tree Ptr
def dm(a:Nat)(cs:List Vl)(j:Nat)(y:Vl):Prop:=match j with
 |0=>y= nP (nM ⟨a,0,nN⟩)
 |3=>y= nP (nM ⟨a,0,nN⟩)
 |4=>True
 |5=>y= nA cs.toArray
 |6=>True
 |_=>y= .bool true
structure di(t:Tr)(tb:Nat)(cs:List Vl)(w4:Wl)(d:Nat->Bool)(f:Nat->Vl)(w:Wl):Prop where
 chg:Chg w4 w []
 vals:∀j,d j=true->dm tb cs j (f j)
 s1:d 4=true->DX w (f 4) (MW t)
 s2:d 6=true->DX w (f 6) (MW t)
theorem di.vals'{t:Tr}{a:Nat}{cs:List Vl}{g w:Wl}{d:Nat->Bool}{f:Nat->Vl}{j:Nat}{y:Vl}(h:di t a cs g d f w)(c:dm a cs j y):∀k,BA d j k=true->dm a cs k (Eb f j y k):=fun k b=>by
 by_cases e:k=j
 .subst e;rw[Bf];exact c
 .rw[AA f y e];rw[An d e]at b;exact h.vals k b
theorem di.put{t:Tr}{c:Nat}{cs:List Vl}{i w w':Wl}{d:Nat->Bool}{f:Nat->Vl}{j:Nat}{y:Vl}(h:di t c cs i d f w)(e:(4:Nat)≠j)(g:(6:Nat)≠j)(k:dm c cs j y)(b:Chg w w' []):di t c cs i (BA d j) (Eb f j y) w':=
 ⟨h.chg.trans b,h.vals' k,fun a=>by rw[AA f y e];rw[An d e]at a;exact(h.s1 a).kept b,fun a=>by rw[AA f y g];rw[An d g]at a;exact(h.s2 a).kept b⟩
theorem di.put4{t:Tr}{c:Nat}{cs:List Vl}{e w w':Wl}{d:Nat->Bool}{f:Nat->Vl}{y:Vl}(h:di t c cs e d f w)(g:DX w' y (MW t))(a:Chg w w' []):di t c cs e (BA d 4) (Eb f 4 y) w':=
 ⟨h.chg.trans a,h.vals' trivial,fun _=>by rw[Bf];exact g,fun b=>by rw[AA f y ZM];rw[An d ZM]at b;exact(h.s2 b).kept a⟩
theorem di.put6{t:Tr}{c:Nat}{cs:List Vl}{e w w':Wl}{d:Nat->Bool}{f:Nat->Vl}{y:Vl}(h:di t c cs e d f w)(g:DX w' y (MW t))(a:Chg w w' []):di t c cs e (BA d 6) (Eb f 6 y) w':=
 ⟨h.chg.trans a,h.vals' trivial,fun b=>by rw[AA f y ZM];rw[An d ZM]at b;exact(h.s1 b).kept a,fun _=>by rw[Bf];exact g⟩
theorem dt(t:Tr)(F z:Nat->Prop)(k:Nat)(cs:List Vl)(w:Wl)(x:Bt t)(L:CG w z k t)(B:∀b,z b->b<w.heap.size)(G:AL w F t cs)(g:∀b,F b->b<w.heap.size):
  Cl prog 19 #[nP (nM ⟨k,0,nN⟩),nA cs.toArray] w (BU true w):=by
 have hn:=(Ar x.fits).1;have D:∀s∈Ai t,s.keys.length<=2147483648:=fun s E=>(Uy t x.good x.fits s E).keys
 obtain⟨u,y⟩:=Ue (World.drew (w.alloc (nC cs.toArray 29)))
 have J:=hZ y;have n:Hid (Chg w u []):=by rw[y];exact hZ ((Chg.refl w []).alloc _).drew
 have HB:Hid (Ac u w.heap.size cs 29):=by rw[y];exact hZ (Ac.new w cs _).drew
 have aa:=UD ((prog.info? 29).map (·.size)=nM cs.length) (by rw[G.length];exact A9)
 have af:=UD (∀i,Chg u i []->Cl prog 38 #[nP (nM ⟨k,0,nN⟩)] i (cJ t i)) fun i r=>
  (TY z k t i (L.kept (n.o.trans r) B) (fun b C=>Q6 (B b C) (n.o.trans r).size) Zj).mono fun e w' h=>cK h
 have ae:=UD (∀i,Chg u i []->Cl prog 46 #[nA cs.toArray] i (cJ t i)) fun i r=>
  dl t F cs i hn D (AL.kept ((n.o.trans r).keepsF g) (fun _ h=>h) _ _ G) (fun b C=>Q6 (g b C) (n.o.trans r).size)
 have ab:=UD (∀s∈MW t,s.keys.length<=4294967296) fun s E=>by
  obtain⟨p,hp,rfl⟩:=List.mem_map.1 E;have:=D p hp
  show p.keys.length<=_
  omega
 clear x L B G g D y;go_enter func19,ntmps19
 go_wp2_with fail
 refine wp_region_any Yb ?_;change wpAny _ _ _ _ _ _ _ (World.drew _);rw[<-J.o];refine Dg _ (di t k cs u) Yb ?_ ?_ _ ?_
 .intro ii op a v dd d g al f ak c K j
  match ii,d with
  |0,d=>
   obtain rfl:=Q5 d;have h0:a.tmps.getD 0 undef= nP (nM ⟨k,0,nN⟩):=g.at 0 Yb;rw[Qr (by simp[Region.wanted])];go_simp
   exact j _ _ Zh (c.put ZM ZM (by simp[dm]) cR)
  |1,d=>
   obtain rfl:=Q5 d;have h5:a.tmps.getD 5 undef= nP (nM ⟨k,0,nN⟩):=c.vals 0 (f ⟨0,.data⟩ Zh rfl);rw[Qr (by simp[Region.wanted])];go_simp
   exact j _ _ Zh (c.put ZM ZM (by simp[dm]) cR)
  |2,d=>
   obtain rfl:=Q5 d;have h6:a.tmps.getD 6 undef= .bool true:=c.vals 1 (f ⟨1,.data⟩ Zh rfl);rw[Qr (by simp[Region.wanted])];go_simp
   exact j _ _ Zh (c.put ZM ZM (by simp[dm]) cR)
  |3,d=>
   obtain rfl:=Q5 d;have h0:a.tmps.getD 0 undef= nP (nM ⟨k,0,nN⟩):=g.at 0 Yb;rw[Qr (Cw rfl ZN (c.vals 2 (f ⟨2,.guard⟩ Zh rfl)))];go_simp
   exact j _ _ Zh (c.put ZM ZM (by simp[dm]) cR)
  |4,d=>
   obtain rfl:=Q5 d;have h8:a.tmps.getD 8 undef= nP (nM ⟨k,0,nN⟩):=c.vals 3 (f ⟨3,.data⟩ Zh rfl);rw[Qr (Cw rfl ZN (c.vals 2 (f ⟨2,.guard⟩ Zh rfl)))];go_simp
   go_at_call 38;refine(af.o v c.chg).mono ?_;rintro e Z ⟨s1,rfl,q,o⟩;exact j _ _ Zh (c.put4 q o)
  |5,d=>
   obtain rfl:=Q5 d;have h3:a.tmps.getD 3 undef= nP (nM ⟨w.heap.size,0,nN⟩):=g.at 3 Yb;rw[Qr (Cw rfl ZN (c.vals 2 (f ⟨2,.guard⟩ Zh rfl)))];refine Bd _ _ rfl _ h3 29 _ (HB.o.kept c.chg) _ underlying29 rfl aa.o ?_;exact j _ _ Zh (c.put ZM ZM (by simp[dm]) cR)
  |6,d=>
   obtain rfl:=Q5 d;have ag:a.tmps.getD 10 undef= nA cs.toArray:=c.vals 5 (f ⟨5,.data⟩ Zh rfl);rw[Qr (Cw rfl ZN (c.vals 2 (f ⟨2,.guard⟩ Zh rfl)))];go_simp
   go_at_call 46;refine(ae.o v c.chg).mono ?_;rintro e Z ⟨s1,rfl,q,o⟩;exact j _ _ Zh (c.put6 q o)
  |7,d=>
   obtain rfl:=Q5 d;obtain⟨H,h9,X⟩:∃H,a.tmps.getD 9 undef=H/\DX v H (MW t):=⟨_,rfl,c.s1 (f ⟨4,.data⟩ Zh rfl)⟩
   obtain⟨I,ah,Y⟩:∃I,a.tmps.getD 11 undef=I/\DX v I (MW t):=⟨_,rfl,c.s2 (f ⟨6,.data⟩ Zh rfl)⟩
   have HE:=Rf _ _ _ v X Y (by rw[Ju];omega) ab.o;clear X Y;rw[Qr (Cw rfl ZN (c.vals 2 (f ⟨2,.guard⟩ Zh rfl)))];go_simp
   go_at_call 37;refine HE.mono ?_;rintro e Z ⟨rfl,o⟩;exact j _ _ Zh (c.put ZM ZM (by simp[dm]) o)
  |8,d=>
   obtain rfl:=Q5 d;have h7:a.tmps.getD 7 undef= .bool true:=c.vals 2 (f ⟨2,.data⟩ Zh rfl);have ai:a.tmps.getD 12 undef= .bool true:=c.vals 7 (f ⟨7,.data⟩ Zh rfl);rw[Qr (by simp[Region.wanted])];go_simp
   exact j _ _ Zh (c.put ZM ZM (by simp[dm]) cR)
  |9,d=>
   obtain rfl:=Q5 d;have aj:a.tmps.getD 13 undef= .bool true:=c.vals 8 (f ⟨8,.data⟩ Zh rfl);rw[Qr (by simp[Region.wanted])];go_simp
   exact j _ _ Zh (c.put ZM ZM (by simp[dm]) cR)
  |_+10,d=>exact absurd d Zh
 .intro a wR dd g M c
  have A:a.tmps.getD 4 undef= .bool true:=c.vals 9 (M 9 ZM);have ad:=UD (Chg w wR []) (n.o.trans c.chg);clear c M J;have m:=g.form' [5,6,7,8,9,10,11,12,13,4] Yb;have N:=g.defers;obtain⟨l,df⟩:=a;clear g
  dsimp only at m N A
  simp only[List.foldl_cons,List.foldl_nil]at m;rw[A]at m;obtain⟨u5,S⟩:=Ue (l.getD 5 undef)
  obtain⟨u6,T⟩:=Ue (l.getD 6 undef)
  obtain⟨u7,U⟩:=Ue (l.getD 7 undef)
  obtain⟨u8,V⟩:=Ue (l.getD 8 undef)
  obtain⟨u9,W⟩:=Ue (l.getD 9 undef)
  obtain⟨u10,O⟩:=Ue (l.getD 10 undef)
  obtain⟨u11,P⟩:=Ue (l.getD 11 undef)
  obtain⟨u12,Q⟩:=Ue (l.getD 12 undef)
  obtain⟨u13,R⟩:=Ue (l.getD 13 undef)
  rw[<-S,<-T,<-U,<-V,<-W,<-O,<-P,<-Q,<-R]at m;clear S T U V W O P Q R A;simp only[List.setIfInBounds_toArray,List.set_cons_zero,List.set_cons_succ]at m;subst m;subst N;go_wp2_with fail
  go_ret
  exact⟨rfl,ad.o⟩
 .exact⟨Chg.refl _ _,(fun _ e=>by cases e),(fun e=>by cases e),(fun e=>by cases e)⟩
end
section
open Go Go.Shelf Go.RowKit Go.Lib Tree Ptr

structure UG(w:Wl)(so:Vl)(ops:List Bq)(xs:List Vl):Prop where
 row:As w so 4 ops.length xs
 at_:Cc w ops xs
 small:∀o∈ops,T7 o
 many:ops.length<=4294967296
theorem UG.kept{w w':Wl}{c:Vl}{b:List Bq}{xs:List Vl}(h:UG w c b xs)(a:Chg w w' []):UG w' c b xs:=
 ⟨h.row.kept a,Cc.kept a h.at_,h.small,h.many⟩
end
section
open _root_.Go.Proofs.Tryz
open Go Go.RowKit Go.ChangeShapes Go.WideShapes Tree
theorem F4:prog.cellsOf 9=1:=Yb
theorem LV:prog.cellsOf 3=1:=Yb
theorem Qx:prog.cellsOf 70=1:=Yb
theorem Qv:prog.cellsOf 4=1:=Yb
theorem SS:prog.cellsOf 25=1:=Yb
theorem Qy:prog.cellsOf 27=1:=Yb
theorem KU:prog.cellsOf 72=6:=Yb
theorem OY:prog.cellsOf 22=1:=Yb
theorem NU:prog.cellsOf 42=4:=Yb
theorem Qw{w:Wl}{base n:Nat}{a:Addr}{cs:List Vl}(h:w.cells? base a n=some cs):cs.length=n/\∀i v,cs[i]? =some v->w.cell? (a.add i)=some v:=by
 unfold World.cells? at h;split at h
 .have b:=mapM_some_length h
  rw[List.length_range]at b;refine⟨b,fun i v c=> ?_⟩;have hi:i<n:=by rw[<-b];exact(Qc.1 c).1
  rw[mapM_some_get h i i (by simp[hi])];exact c
 .cases h
theorem Wi(a:Addr)(i j:Nat)(h:a.spot=none):(a.add i).add j=⟨a.block,a.off+(i+j),none⟩:=by
 obtain⟨b,o,s⟩:=a;subst h;unfold Addr.add;by_cases hi:i=0<;>by_cases c:j=0<;>simp_all[Nat.add_assoc]
theorem YS{w:Wl}{a:Addr}{v:Vl}(h:w.cell? a=some v):a.spot=none:=by
 unfold World.cell? at h;split at h
 .split at h
  .cases h
  .rename_i b
   cases c:a.spot with
   |none=>rfl
   |some x=>rw[c]at b;exact absurd rfl b
 .cases h
theorem Px{w:Wl}{base sz n:Nat}{a:Addr}{R:Nat->List Vl->Prop}(m:0<sz)(h:∀i,i<n->∃cs,w.cells? base (a.add (i*sz)) sz=some cs/\R i cs):
  ∀i,i<n->∃cs,R i cs/\cs.length=sz/\∀j v,cs[j]? =some v->a=⟨a.block,a.off,none⟩/\w.cell? ⟨a.block,a.off+(i*sz+j),none⟩=some v:=by
 intro i hi
 have f:a.spot=none:=by
  obtain⟨cs,c,_⟩:=h 0 Zj;obtain⟨e,d⟩:=Qw c;have:=d 0 _ (Q9 Zj);have g:=YS this;simpa[Addr.add]using g
 obtain⟨cs,c,k⟩:=h i hi;obtain⟨e,d⟩:=Qw c;refine⟨cs,k,e,fun j v l=>⟨by obtain⟨b,o,s⟩:=a;subst f;rfl, ?_⟩⟩;rw[<-Wi a _ _ f];exact d j v l
theorem ZE{cs:List Vl}(h:cs.length=6):∃g c1 i c3 c4 c5,cs=[g,c1,i,c3,c4,c5]:=by
 match cs,h with
 |[a,b,c,d,e,f],_=>exact⟨a,b,c,d,e,f,rfl⟩
theorem bH{H:Type}(d:DataW H):1<=Rows.uptoBulk d:=by
 cases d with
 |lit l=>cases l<;>simp[Rows.uptoBulk]
 |_=>simp[Rows.uptoBulk]
theorem Kg{H:Type}{d:DataW H}:∀{l:List (DataW H)},d∈l->Rows.uptoBulk d<=Rows.uptoBulkAll l
 |x::r,h=>by
  simp only[Rows.uptoBulkAll]
  rcases Qh.1 h with rfl|h
  .omega
  .have:=Kg h;omega
theorem Hw{H:Type}:∀(l:List (DataW H)),l.length<=Rows.uptoBulkAll l
 |[]=>by simp[Rows.uptoBulkAll]
 |x::r=>by have:=bH x;have:=Hw r;simp only[Rows.uptoBulkAll,Qj];omega
theorem FG{H:Type}(b:BY):Rows.uptoBulk (DataW.lit (H:=H) (.string b.data.toList))=b.size+1:=by
 simp[Rows.uptoBulk]
theorem NT{H:Type}:∀(ks:List BY),Rows.uptoBulkAll (ks.map fun k=>DataW.lit (H:=H) (.string k.data.toList))=Ay ks+ks.length
 |[]=>rfl
 |k::ks=>by
  have:=NT (H:=H) ks;simp only[List.map_cons,Rows.uptoBulkAll,FG,this,Ay,List.sum_cons,Qj];omega
def Sm{H:Type}(d:DataW H):Prop:=Rows.uptoBulk d<=1048576
theorem Vg{H:Type}{enc:Ti×Vl->H}{w:Wl}{b:Nat}{s:Nat->Bool}{B:Bool}{A:Nat}{cs:List Vl}{x:DataW H×List MemPlace}(h:DataW.trod enc prog w b s B A 27 cs=some x)(m:Sm x.1):
  ∃(a:Option Addr) (c:Nat) (ks:List BY),cs=[.slice a ks.length c]/\As w (.slice a ks.length c) 1 ks.length (Ad ks)/\ks.length<=1048576/\Ay ks<=1048576:=by
 rcases DataW.trod_slice underlying27 h with⟨rfl,_⟩|⟨a,o,p,g,rest,n,_,rfl,rfl,_,C,_,K,r,_,_⟩
 .exact⟨none,0,[],rfl,⟨none,0,rfl,Q8 _,rfl,fun i v d=>by simp[Ad]at d⟩,Zh,by simp[Ay]⟩
 .rw[F4]at r
  unfold Sm at m;simp only[Rows.uptoBulk]at m
  have E:=Px (w:=w) (base:=b) (sz:=1) (n:=o) (a:=a) (R:=fun i cs=>∃q:BY,cs=[.string q]/\(g[i]?).map (·.1)=some (.lit (.string q.data.toList))) ZM (fun i hi=>by
   have e:=r i hi;obtain⟨y,t⟩:∃y,g[i]? =some y:=⟨_,Q9 Zj⟩
   rw[t]at e;simp only[Option.bind_eq_some_iff]at e;obtain⟨cs,f,F⟩:=e;obtain⟨q,rfl,rfl,_⟩:=DataW.trod_string underlying9 F
   exact⟨_,f,q,rfl,by rw[t];rfl⟩)
  have I:∀k,k<=o->∃ks:List BY,ks.length=k/\(g.map (·.1)).take k=ks.map (fun q=>DataW.lit (.string q.data.toList))/\∀i v,(Ad ks)[i]? =some v->a=⟨a.block,a.off,none⟩/\w.cell? ⟨a.block,a.off+i,none⟩=some v:=by
   intro k
   induction k with
   |zero=>exact fun _=>⟨[],rfl,rfl,(fun i v d=>by simp[Ad]at d)⟩
   |succ k G=>
    intro L;obtain⟨ks,e,j,l⟩:=G Zj;obtain⟨cs,⟨q,rfl,D⟩,_,f⟩:=E k Zj;refine⟨ks++[q],by simp[e], ?_,fun i v d=> ?_⟩
    .rw[List.take_add_one,j,List.getElem?_map,D,List.map_append];rfl
    .unfold Ad at d
     rw[List.map_append]at d;by_cases hi:i<(ks.map Vl.string).length
     .rw[List.getElem?_append_left hi]at d
      exact l i v d
     .rw[List.getElem?_append_right Zj]at d
      rw[List.length_map,e]at hi d;have J:i-k<1:=by have:=(Qc.1 d).1;simpa using this
      have f:=f (i-k) v d;rwa[show k*1+(i-k)=i from by omega]at f
  obtain⟨ks,rfl,j,l⟩:=I o (Q8 _);have M:(g.map (·.1)).length=ks.length:=by rw[List.length_map];omega
  rw[Qn Zj]at j;rw[j,NT]at m;refine⟨some a,p,ks,rfl,⟨some a,p,rfl,C,by simp[Ad],fun i v d=> ?_⟩,Zj,Zj⟩;obtain⟨u,z⟩:=l i v d;exact⟨a.block,a.off,by rw[<-u],z⟩
theorem PB{ks:List BY}{k:BY}(h:k∈ks):k.size<=Ay ks:=by
 unfold Ay
 induction ks with
 |nil=>cases h
 |cons x r a=>
  rw[List.map_cons,List.sum_cons]
  rcases Qh.1 h with rfl|h
  .omega
  .have:=a h;omega
theorem Vf{H:Type}{enc:Ti×Vl->H}{w:Wl}{b:Nat}{s:Nat->Bool}{j:Bool}{R:Nat}{cs:List Vl}{x:DataW H×List MemPlace}(h:DataW.trod enc prog w b s j R 72 cs=some x)(L:Sm x.1):
  ∃(t:Ap) (sk:Vl),cs=AI t sk/\As w sk 1 t.keys.length (Ad t.keys)/\Di t:=by
 obtain⟨xs,m,_,rfl,K,ad,n⟩:=DataW.trod_struct underlying72 h;rw[KU]at K;have ae:xs.length=6:=ad
 obtain⟨y,z,A,q,B,C,rfl⟩:∃y z A q B C,xs=[y,z,A,q,B,C]:=by
  match xs,ae with
  |[a,b,c,d,e,f],_=>exact⟨a,b,c,d,e,f,rfl⟩
 have D:DataW.trod enc prog w b s j m 70 ((cs.drop 0).take (prog.cellsOf 70))=some y:=n 0 _ rfl;have E:DataW.trod enc prog w b s j m 4 ((cs.drop 1).take (prog.cellsOf 4))=some z:=n 1 _ rfl;have F:DataW.trod enc prog w b s j m 25 ((cs.drop 2).take (prog.cellsOf 25))=some A:=n 2 _ rfl;have G:DataW.trod enc prog w b s j m 9 ((cs.drop 3).take (prog.cellsOf 9))=some q:=n 3 _ rfl;have I:DataW.trod enc prog w b s j m 3 ((cs.drop 4).take (prog.cellsOf 3))=some B:=n 4 _ rfl;have J:DataW.trod enc prog w b s j m 27 ((cs.drop 5).take (prog.cellsOf 27))=some C:=n 5 _ rfl;rw[Qx]at D;rw[Qv]at E;rw[SS]at F;rw[F4]at G;rw[LV]at I;rw[Qy]at J;unfold Sm at L;simp only[List.map_cons,List.map_nil,Rows.uptoBulk,Rows.uptoBulkAll]at L;obtain⟨so,Y,_,_⟩:=DataW.trod_int underlying70 D;obtain⟨Q,r,_⟩:=DataW.trod_bool underlying4 E;obtain⟨p,u,_,aa⟩:=DataW.trod_int underlying25 F;obtain⟨o,Z,P,_⟩:=DataW.trod_string underlying9 G;obtain⟨O,h4,_,ab⟩:=DataW.trod_int underlying3 I;obtain⟨a,c,ks,h5,hR,af,ag⟩:=Vg J (show Rows.uptoBulk _<=_ by omega);have hb:=bounds_u64 aa;have hc:=bounds_i64 ab;have ht:o.size<=1048576:=by have r:=FG (H:=H) o;have u:Rows.uptoBulk q.1=o.size+1:=(by rw[P];exact r);omega
 refine⟨⟨so,Q,p.toNat,o,O,ks⟩,.slice a ks.length c, ?_,hR,⟨by show p.toNat<_;omega,by show o.size<=_;omega,by show ks.length<=_;omega,fun k hk=>by have u:k.size<=Ay ks:=PB hk;omega,by show Ay ks<=_;omega,hc⟩⟩
 have g:∀i v,(cs.drop i).take 1=[v]->cs[i]? =some v:=fun i v h=>by
  have:=congrArg (fun l=>l[0]?) h;simpa[List.getElem?_take,List.getElem?_drop]using this
 have S:=g 0 _ Y;have T:=g 1 _ r;have U:=g 2 _ u;have V:=g 3 _ Z;have W:=g 4 _ h4;have X:=g 5 _ h5;obtain⟨M,c1,N,c3,c4,c5,rfl⟩:=ZE K;obtain rfl:M=_:=Q5 S;obtain rfl:c1=_:=Q5 T;obtain rfl:N=_:=Q5 U;obtain rfl:c3=_:=Q5 V;obtain rfl:c4=_:=Q5 W;obtain rfl:c5=_:=Q5 X
 show _=[_,_,_,_,_,_]
 rw[show(((p.toNat:Nat):Int))=p from by omega]
theorem MA{H:Type}{enc:Ti×Vl->H}{w:Wl}{b:Nat}{s:Nat->Bool}{A:Bool}{I:Nat}{cs:List Vl}{x:DataW H×List MemPlace}(h:DataW.trod enc prog w b s A I 22 cs=some x)(D:Sm x.1):
  ∃(a:Option Addr) (c:Nat) (l:List Ap) (xs:List Vl),cs=[.slice a l.length c]/\As w (.slice a l.length c) 6 l.length xs/\Az w l xs/\(∀s∈l,Di s)/\l.length<=1048576:=by
 rcases DataW.trod_slice underlying22 h with⟨rfl,_⟩|⟨a,p,B,q,rest,n,_,rfl,rfl,_,L,_,T,C,_,_⟩
 .exact⟨none,0,[],[],rfl,⟨none,0,rfl,Q8 _,rfl,fun i v e=>by simp at e⟩,by simp[Az],(fun k o=>by cases o),Zh⟩
 .rw[KU]at C
  unfold Sm at D;simp only[Rows.uptoBulk]at D;have P:∀d∈q.map (·.1),Sm d:=fun d A=>by have:=Kg A;unfold Sm;omega
  have N:=Px (w:=w) (base:=b) (sz:=6) (n:=p) (a:=a) (R:=fun i cs=>∃(t:Ap) (sk:Vl),cs=AI t sk/\As w sk 1 t.keys.length (Ad t.keys)/\Di t) ZM (fun i hi=>by
   have f:=C i hi;obtain⟨y,E⟩:∃y,q[i]? =some y:=⟨_,Q9 Zj⟩
   rw[E]at f;simp only[Option.bind_eq_some_iff]at f;obtain⟨cs,g,O⟩:=f
   exact⟨_,g,Vf O (P y.1 (List.mem_map.2 ⟨y,Qi E,rfl⟩))⟩)
  have M:p<=1048576:=by have:=Hw (q.map (·.1));rw[List.length_map]at this;omega
  have S:∀k,k<=p->∃(l:List Ap) (xs:List Vl),l.length=k/\xs.length=k*6/\Az w l xs/\(∀s∈l,Di s)/\∀i v,xs[i]? =some v->a=⟨a.block,a.off,none⟩/\w.cell? ⟨a.block,a.off+i,none⟩=some v:=by
   intro k
   induction k with
   |zero=>exact fun _=>⟨[],[],rfl,rfl,by simp[Az],(fun k o=>by cases o),(fun i v e=>by simp at e)⟩
   |succ k Q=>
    intro o;obtain⟨l,xs,f,m,r,u,z⟩:=Q Zj;obtain⟨cs,⟨t,sk,rfl,J,K⟩,_,g⟩:=N k Zj;refine⟨l++[t],xs++AI t sk,by simp[f],by rw[Qk,m];show _+6=_;omega,r.append ⟨sk,[],Zh,J,by simp[Az]⟩,fun s j=> ?_,fun i v e=> ?_⟩
    .rcases Qf.1 j with j|j
     .exact u s j
     .rw[List.mem_singleton.1 j];exact K
    .by_cases hi:i<xs.length
     .rw[List.getElem?_append_left hi]at e
      exact z i v e
     .rw[List.getElem?_append_right Zj,m]at e
      have g:=g (i-k*6) v e;rwa[show k*6+(i-k*6)=i from by omega]at g
  obtain⟨l,xs,rfl,m,r,u,z⟩:=S p (Q8 _);refine⟨some a,B,l,xs,rfl,⟨some a,B,rfl,L,m,fun i v e=> ?_⟩,r,u,M⟩;obtain⟨F,G⟩:=z i v e;exact⟨a.block,a.off,by rw[<-F],G⟩
theorem Yr{cs:List Vl}(h:cs.length=4):∃e c1 f c3,cs=[e,c1,f,c3]:=by
 match cs,h with
 |[a,b,c,d],_=>exact⟨a,b,c,d,rfl⟩
def gH(t:Bq):Prop:=T7 t/\t.path.size<=1048576/\t.frm.size<=1048576
theorem YD{H:Type}{enc:Ti×Vl->H}{w:Wl}{b:Nat}{s:Nat->Bool}{j:Bool}{I:Nat}{cs:List Vl}{x:DataW H×List MemPlace}(h:DataW.trod enc prog w b s j I 42 cs=some x)(C:Sm x.1):
  ∃(t:Bq) (sv:Vl) (ys:List Vl),cs=BJ t sv/\As w sv 6 t.steps.length ys/\Az w t.steps ys/\gH t:=by
 obtain⟨xs,m,_,rfl,B,U,k⟩:=DataW.trod_struct underlying42 h;rw[NU]at B;have V:xs.length=4:=U
 obtain⟨q,n,o,r,rfl⟩:∃q n o r,xs=[q,n,o,r]:=by
  match xs,V with
  |[a,b,c,d],_=>exact⟨a,b,c,d,rfl⟩
 have u:DataW.trod enc prog w b s j m 3 ((cs.drop 0).take (prog.cellsOf 3))=some q:=k 0 _ rfl;have y:DataW.trod enc prog w b s j m 9 ((cs.drop 1).take (prog.cellsOf 9))=some n:=k 1 _ rfl;have z:DataW.trod enc prog w b s j m 9 ((cs.drop 2).take (prog.cellsOf 9))=some o:=k 2 _ rfl;have A:DataW.trod enc prog w b s j m 22 ((cs.drop 3).take (prog.cellsOf 22))=some r:=k 3 _ rfl;rw[LV]at u;rw[F4]at y z;rw[OY]at A;unfold Sm at C;simp only[List.map_cons,List.map_nil,Rows.uptoBulk,Rows.uptoBulkAll]at C;obtain⟨W,N,_,_⟩:=DataW.trod_int underlying3 u;obtain⟨pa,f,F,_⟩:=DataW.trod_string underlying9 y;obtain⟨e,p,G,_⟩:=DataW.trod_string underlying9 z;obtain⟨a,c,l,ys,O,Q,R,P,X⟩:=MA A (show Rows.uptoBulk _<=_ by omega);have S:pa.size<=1048576:=by have f:=FG (H:=H) pa;have p:Rows.uptoBulk n.1=pa.size+1:=(by rw[F];exact f);omega
 have T:e.size<=1048576:=by have f:=FG (H:=H) e;have p:Rows.uptoBulk o.1=e.size+1:=(by rw[G];exact f);omega
 refine⟨⟨W,pa,e,l⟩,.slice a l.length c,ys, ?_,Q,R,⟨by show pa.size<=_;omega,by show e.size<=_;omega,P,by show l.length<=_;omega⟩,S,T⟩
 have g:∀i v,(cs.drop i).take 1=[v]->cs[i]? =some v:=fun i v h=>by
  have:=congrArg (fun l=>l[0]?) h;simpa[List.getElem?_take,List.getElem?_drop]using this
 have J:=g 0 _ N;have K:=g 1 _ f;have L:=g 2 _ p;have M:=g 3 _ O;obtain⟨D,c1,E,c3,rfl⟩:=Yr B;obtain rfl:D=_:=Q5 J;obtain rfl:c1=_:=Q5 K;obtain rfl:E=_:=Q5 L;obtain rfl:c3=_:=Q5 M;rfl
theorem Rt{H:Type}{enc:Ti×Vl->H}{w:Wl}{b:Nat}{s:Nat->Bool}{B:Bool}{K:Nat}{cs:List Vl}{x:DataW H×List MemPlace}(h:DataW.trod enc prog w b s B K 23 cs=some x)(F:Sm x.1):
  ∃(a:Option Addr) (c:Nat) (l:List Bq) (xs:List Vl),cs=[.slice a l.length c]/\UG w (.slice a l.length c) l xs/\∀o∈l,o.path.size<=1048576/\o.frm.size<=1048576:=by
 rcases DataW.trod_slice underlying23 h with⟨rfl,_⟩|⟨a,r,D,u,rest,n,_,rfl,rfl,_,O,_,V,E,_,_⟩
 .exact⟨none,0,[],[],rfl,⟨⟨none,0,rfl,Q8 _,rfl,fun i v e=>by simp at e⟩,rfl,(fun k f=>by cases f),Zh⟩,fun k f=>by cases f⟩
 .rw[NU]at E
  unfold Sm at F;simp only[Rows.uptoBulk]at F;have S:∀d∈u.map (·.1),Sm d:=fun d B=>by have:=Kg B;unfold Sm;omega
  have P:=Px (w:=w) (base:=b) (sz:=4) (n:=r) (a:=a) (R:=fun i cs=>∃(t:Bq) (sv:Vl) (ys:List Vl),cs=BJ t sv/\As w sv 6 t.steps.length ys/\Az w t.steps ys/\gH t) ZM (fun i hi=>by
   have g:=E i hi;obtain⟨y,G⟩:∃y,u[i]? =some y:=⟨_,Q9 Zj⟩
   rw[G]at g;simp only[Option.bind_eq_some_iff]at g;obtain⟨cs,j,Q⟩:=g
   exact⟨_,j,YD Q (S y.1 (List.mem_map.2 ⟨y,Qi G,rfl⟩))⟩)
  have W:r<=1048576:=by have:=Hw (u.map (·.1));rw[List.length_map]at this;omega
  have U:∀k,k<=r->∃(l:List Bq) (xs:List Vl),l.length=k/\xs.length=k*4/\Cc w l xs/\(∀o∈l,gH o)/\∀i v,xs[i]? =some v->a=⟨a.block,a.off,none⟩/\w.cell? ⟨a.block,a.off+i,none⟩=some v:=by
   intro k
   induction k with
   |zero=>exact fun _=>⟨[],[],rfl,rfl,rfl,(fun k f=>by cases f),(fun i v e=>by simp at e)⟩
   |succ k T=>
    intro f;obtain⟨l,xs,g,p,z,q,A⟩:=T Zj;obtain⟨cs,⟨t,sv,ys,rfl,M,N,L⟩,_,j⟩:=P k Zj;refine⟨l++[t],xs++BJ t sv,by simp[g],by rw[Qk,p];show _+4=_;omega,z.append ⟨sv,ys,[],Zh,M,N,rfl⟩,fun s m=> ?_,fun i v e=> ?_⟩
    .rcases Qf.1 m with m|m
     .exact q s m
     .rw[List.mem_singleton.1 m];exact L
    .by_cases hi:i<xs.length
     .rw[List.getElem?_append_left hi]at e
      exact A i v e
     .rw[List.getElem?_append_right Zj,p]at e
      have j:=j (i-k*4) v e;rwa[show k*4+(i-k*4)=i from by omega]at j
  obtain⟨l,xs,rfl,p,z,q,A⟩:=U r (Q8 _);refine⟨some a,D,l,xs,rfl,⟨⟨some a,D,rfl,O,p,fun i v e=> ?_⟩,z,fun o C=>(q o C).1,Zj⟩,fun o C=>(q o C).2⟩;obtain⟨I,J⟩:=A i v e;exact⟨a.block,a.off,by rw[<-I],J⟩
end
section
open _root_.Go.Proofs.Tryz
open Go Go.RowKit Go.ChangeShapes Go.WideShapes Go.ChangeAt
theorem Xm:ownKnob prog.godebug=none:=Yb
theorem Sl: "*" ++ "errors.errorString" = "*errors.errorString" :=ZM
theorem Ur(u:Ti)(h:prog.typeName? 3 u=some "*errors.errorString"):u=394:=
 typeName_ptr_named (nm:= "errors.errorString") (by rw[Sl];kernel_rfl) Yb ZM u (by rw[Sl];exact h)
theorem Yx:((begin prog (fun _ _=>0) default).world.heap[2]?).bind Obj.row? =some (#[.int .i64 0],3):=Yb
theorem WU:prog.buildable 3=true:=Yb
theorem U9:prog.cellTypes prog.depth 3=some [3]:=Yb
theorem SP:(begin prog (fun _ _=>0) default).world.heap.size=15:=Yb
theorem N4:prog.globals.size=10:=Yb
theorem UM{W:Wl}{g:Nat}{cs:Array Vl}{T:Ti}{v:Vl}(h:W.heap[g]? =some (.cells cs T (0,0)))(a:cs[0]? =some v):W.cell? ⟨g,0,none⟩=some v:=by
 simp only[World.cell?,h];exact a
def az:DataW Unit->List Vl
 | .lit (.int k z)=>[.int k z]
 | .agg [.lit (.int k z),.lit (.int a b)]=>[.int k z,.int a b]
 |_=>[]
def LU:DataW Unit->Array Vl
 | .agg l=>(l.flatMap az).toArray
 |_=>#[]
def Zd:DataW Unit->BY
 | .iface _ (.ptr (.agg [.lit (.string l)]))=>⟨l.toArray⟩
 |_=>⟨#[]⟩
def TJ(h:Array Obj)(g:Nat)(cs:Array Vl):Array Obj:=h.modify g fun
 | .cells _ t frozen=> .cells cs t frozen
 |o=>o
noncomputable abbrev N0:Nat:=(World.settled prog default).heap.size
theorem Chg.keptBut{w w':Wl}(h:Chg w w' [])(a:MemPlace->Prop):w.keptBut w' a:=by
 refine⟨h.os,h.output,fun i hi=> ?_⟩;rw[h.block i hi Zh];exact(World.keptBut_refl w a).2.2 i hi
theorem Pq{H:Type}{enc:Ti×Vl->H}{P:Program}{f:Func}{s:ChangeSpec}{m y A x:Bool}{W d:Wl}{args:Array Vl}{v:Vl}{h i:List (DataW H)}{c pa pv:List MemPlace}(k:DataW.Whole enc P f.params.toList s.vars m W args.toList h i c)(u:∀(b:Nat) (e:Nat->Bool) (B:Bool),DataW.TrodAll enc P d b e B f.resultTypes.toList (v.resultList f.resultTypes.size) (s.fn H (h++i)).results [])(n:∀e:Nat->Bool,(∀p∈c,e p.block=true)->DataW.TrodAll enc P d 0 e true f.params.toList args.toList (s.fn H (h++i)).args pa)(w:∀e:Nat->Bool,(∀p∈c,e p.block=true)->DataW.TrodVars enc P d e s.vars (s.fn H (h++i)).vars pv)(l:c=pa++pv)(D:W.keptBut d (·∈c))(C:∀b g,b<W.heap.size->d.frozen? ⟨b,g,none⟩=W.frozen? ⟨b,g,none⟩)(G:∀(j:Nat) (t:Ti) (r:Vl),f.resultTypes[j]? =some t->(v.resultList f.resultTypes.size)[j]? =some r->Vl.okWide P d .any 0 t r):
  s.post enc P f m y A x W args v d:=by
 have E:∀p∈c,p.block<W.heap.size:=fun p a=>k.lt p a
 have q:∀p∈c,(fun b=>decide (b<W.heap.size)) p.block=true:=fun p a=>by simpa using k.lt p a
 refine⟨h,i,c,[],pa,pv,k,u _ _ _,n _ q,w _ q,World.keptBut_mono (fun p a=>⟨a, ?_⟩) D,fun _=> ?_⟩
 .rw[l,Qf]at a
  exact Or.inr a
 .obtain⟨_,_,_,_,_,I,F⟩:=k
  refine⟨G,_,_,([]++pa)++pv,⟨[]++pa,pv,trodAll_append (n _ (fun _ _=>rfl)) (u _ _ _),w _ (fun _ _=>rfl),rfl, ?_, ?_⟩, ?_⟩
  .intro b g a
   have o:MemPlace.cell b g∈c:=by rw[l];simpa using a
   rw[C b g (E _ o)];exact I b g o
  .intro z
   have:=F z;rw[l]at this;simpa using this
  .intro p a _
   rw[l];simpa using a
theorem Me:laidOutB prog=true:=Yb
theorem Chg.sameAt{w w':Wl}(h:Chg w w' []){p:MemPlace}(a:p.block<w.heap.size):w.sameAt w' p:=by
 cases p with
 |cell b c=>exact h.cell (p:=⟨b,c,Option.none⟩) a Zh
 |map b=>exact h.block b a Zh
end
theorem coreBase:True:=trivial
end Go.Proofs.YtkfnkppdhcaeoaaGreatDoor

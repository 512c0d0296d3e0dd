/- Part 22 of the proof of patchFresh_card. -/
import Derived.Deep.DeepHandedRow
import Derived.Lib.AppendZeros
import Derived.OpenShut
import Derived.ProofKit
import Derived.SizedLaws
import Derived.WideKeyArgs
import Derived.Test.YtamgbmcchhmojaaGreatDoorM21
set_option maxRecDepth 100000
set_option maxHeartbeats 32000000
set_option linter.all false
namespace Go.Proofs.YtamgbmcchhmojaaGreatDoor
open Go renaming Calls->Cl,TypeId->Ti,Value->Vl,World->Wl
open Go.Value renaming agg->nA,iface->nF,int->nI,pointer->nP,slice->nS,string->nG,tuple->nT
open Go.IntKind renaming i64->nX
open Go.Ending renaming returned->nR
open Go.Obj renaming cells->nC
open Option renaming none->nN,some->nM
section
open _root_.Go.Proofs.Tryz
open Go Go.Shelf Go.RowKit Go.Lib Tree Ptr
variable{o:Bq}{os:List Bq}{cs xs:List Vl}{A B R s:Nat}{d:Nat->Bool}{F:Nat->Prop}{f:Nat->Vl}{V:Nat->Vl->Prop}{P:Program}{p:Prop}{T:Ti}{t:Tr}{sv:Vl}{w w0:Wl}
theorem JK:(prog.info? 44).map (fun i=>(i.zero,i.size,i.bytes))=nM (nM (nA #[nI nX 0,nG ⟨#[]⟩,nG ⟨#[]⟩,nS nN 0 0]),4,64):=Yb
theorem Yo{b:Tr}{v:List CW}(h:Gz t o= .yes b v):v.length<=2:=by
 unfold Gz at h;split at h
 .cases h
 .unfold Da at h;repeat' split at h
  all_goals first
   |(obtain⟨_,_,rfl,_⟩:=Fd h;simp)
   |(obtain⟨_,rfl,_⟩:=Ib h;simp)
   |(injection h with c a;subst a;simp)
   |cases h
theorem Sa:∀{l:List Bq} {t b:Tr} {u v:List CW} {i:Nat},BR t u i l= .yes b v->v.length<=u.length+2*l.length
 |[],t,b,u,v,i,h=>by simp[BR]at h;rw[h.2];simp
 |o::l,t,b,u,v,i,h=>by
  simp only[BR]at h;cases a:Gz t o with
  |no e=>rw[a]at h;cases h
  |yes c w=>
   rw[a]at h;have:=Sa h;have:=Yo a;simp only[Qk,Qj]at*;omega
theorem Eh.one{l:List Bq}(h:Eh w F l xs):∀u∈xs,u.oneCell'=true:=Cc.one h.toIn
theorem AK.maxLe{e:Ti}{vs:List Vl}(h:AK w sv e vs):vs.length<=9223372036854775807:=by
 rcases h.2 with⟨d,f⟩|⟨g,b,c,j,_,_,i,a,_⟩
 .omega
 .unfold maxLen at a;omega
def Jz(r:Zi)(w:Wl)(e:Ending)(w':Wl):Prop:=match r with
 | .no k i=>e= nR (nT #[nS nN 0 0,Hk k i])/\Chg w w' []
 | .yes _ u=>if 65536<u.length then e= nR (nT #[nS nN 0 0,nF 70 (nI nX 3)])/\Chg w w' []else
  ∃a xs G,e= nR (nT #[a,.nilIface])/\EW w w' (u.map CW.toI) a xs G/\Chg w w' []
theorem z1s(h:p:=by have:=T.o;have:=R.o;omega):p:=h
theorem z1v(h:p:=by simpa using c):p:=h
theorem Xn(F:Nat->Prop)(tb:Nat)(t:Tr)(I:List Bq)(so:Vl)(xs:List Vl)(w:Wl)(h:Yc w F tb t I so xs):
  Cl prog 8 #[nP (nM ⟨tb,0,nN⟩),so] w (Jz (BR t [] 0 I) w):=by
 have m:=Xs t F tb I so xs w h.laid h.big h.tree h.lt h.fine h.row h.at_ h.small h.many;unfold Fb at m;obtain⟨sa,sc,rfl,_⟩:=h.row.form;have ai:=h.many;obtain⟨nl,Y⟩:=Ue I.length;rw[<-Y]at m|-;cases E:BR t [] 0 I with
 |no k i=>
  rw[E]at m;have Q:=hZ m;clear m E h Y ai;go_enter func8,ntmps8;go_wp2_with((go_at_call 23;refine Q.o.mono ?_;rintro e y ⟨rfl,a⟩;have z:=hZ a;clear a));go_ret2;exact⟨rfl,z.o⟩
 |yes t' u=>
  rw[E]at m;have am:u.length<=131072:=by have:=Sa E;simp at this;omega
  have af:=hZ am;have Q:=hZ m;clear m E h Y ai am;go_enter func8,ntmps8;go_wp2_with((go_at_call 23;refine Q.o.mono ?_;rintro e y ⟨⟨W,f,v,uv,bs,vs,G,rfl,x,ah⟩,a⟩;have z:=hZ a;have S:=hZ x;have ad:=hZ ah;obtain⟨ua,uc,rfl,al⟩:=x.row.form;have c3:=x.wat.blk.cell 3;simp only[Qa,Qb]at c3;have lW:=x.wat.blk.lt;have av:=hZ al;have T:=hZ x.grp.length;have aA:=x.row.maxLe;clear a x ah al));obtain⟨n,X⟩:=Ue vs.length;have R:=hZ X;have L:=UD (f.flatten.length=u.length) (by have:=congrArg List.length ad.o;simpa using this);rw[<-X]at c3 aA|-;clear X;go_loopw [25,8] (fun aa v8 wr=>∃(i:Nat) (d:List UF) (q:Option Addr) (cap:Nat),i<=n/\aa= nI nX i/\v8= nS q d.length cap/\Ba wr v8 44 4 d.length (d.flatMap D0)/\Eh y G (f.take i).flatten (d.flatMap D0)/\d.length=(f.take i).flatten.length/\Chg y wr []/\(∀g,v8.ownBlock=nM g->y.heap.size<=g)) (fun aa _ _=>n-(intOf aa).toNat)
  case atStart=>exact⟨0,[],nN,0,Zj,rfl,rfl,Ba.nil _ _ _,rfl,rfl,Chg.refl _ _,fun g c=>by cases c⟩
  case round=>
   obtain⟨i,d,q,cap,hi,rfl,rfl,hL,hF,ag,hc,aj⟩:=hrel;have J:=hZ hL;have HF:=hZ hF;have ab:=hZ ag;have l:=hZ hc;have B:=hZ aj
   have aD:d.length<=131072:=by
    have a:(f.take i).flatten.length<=f.flatten.length:=by
     conv=>rhs;rw[<-List.take_append_drop i f]
     rw[List.flatten_append,Qk];omega
    have:=L.o;have:=af.o;omega
   clear hL hF ag hc aj;by_cases aE:i<n
   .obtain⟨os,N⟩:∃os,f[i]? =nM os:=⟨_,Q9 z1s⟩;obtain⟨sl,ys,P,O,ax,M⟩:=S.o.grp.get i os N;obtain⟨ug,rfl⟩:=av.o (by intro e;rw[e]at P;simp at P);have c4:wr.cell? ⟨ug,i,nN⟩=nM sl:=l.o.keeps (S.o.row.cell rfl i _ P);obtain⟨D,U,rfl⟩:=M.enc;obtain⟨la,lc,rfl,_⟩:=O.form;rw[<-U]at O c4;have au:=hZ (O.kept l.o)
    have aF:D.length<=131072:=by
     have a:os.length<=f.flatten.length:=by
      have:=List.sublist_flatten_of_mem (Qi N);exact this.length_le
     have:=L.o;have:=af.o;omega
    have ao:=hZ M.one;have ap:=hZ M;have an:=hZ U;have aq:=hZ N;clear P O ax M U N;go_wp2_with(refine Fs rfl _ _ 23 rfl 44 _ 4 64 ZM underlying23 JK rfl (nS q d.length cap) d.length (d.flatMap D0) ZN J.o D.length (D.flatMap D0) (nS la D.length lc) ZN au.o ao.o Zj Zj ?_;intro q2 aw w3 p r k3;have C:=hZ p;have s:=hZ r;have K3:=hZ k3;clear p r k3);go_roundw
    case rel=>
     have K:(f.take (i+1)).flatten=(f.take i).flatten++os:=by rw[Cb aq.o,List.flatten_append];simp
     refine⟨i+1,d++D,q2,aw,Zj,by go_num,by rw[Qk], ?_, ?_, ?_, ?_, ?_⟩
     .rw[List.flatMap_append,Qk];exact C.o
     .rw[K,List.flatMap_append];exact HF.o.append ap.o
     .rw[K,Qk,Qk,ab.o,an.o]
     .exact l.o.fresh s.o fun g c=>B.o g z1v
     .intro g c;rcases K3.o g c with h|h
      .exact B.o g h
      .have:=l.o.size;omega
    case measure=>simp[intOf];omega
   .obtain rfl:i=n:=by omega
    have V:d.length=u.length:=by
     have a:=ab.o;rw[Qn z1s]at a;rw[a,L.o]
    have ak:Eh y G (u.map CW.toI) (d.reverse.flatMap D0):=by
     have a:=HF.o;rw[Qn z1s]at a;rw[<-ad.o];exact PU (by rw[L.o];exact V) a
    have ar:=hZ ak;have ae:=hZ (YO d _ wr J.o Zj);have A:=hZ V;clear ak V;by_cases aC:(65536:Int)<(d.length:Int)
    .go_wp2_with((go_at_call 25;refine ae.o.mono ?_;rintro e w5 ⟨rfl,p,r⟩;have C:=hZ p;have s:=hZ r;clear p r));go_ret2;have Z:65536<u.length:=by have:=A.o;omega
     show Jz (.yes t' u) w _ _
     unfold Jz;dsimp only;rw[Qr Z];exact⟨rfl,(z.o.trans l.o).fresh s.o fun g c=>by have:=B.o g z1v;have:=z.o.size;omega⟩
    .go_wp2_with((go_at_call 25;refine ae.o.mono ?_;rintro e w5 ⟨rfl,p,r⟩;have C:=hZ p;have s:=hZ r;clear p r));go_ret2;have Z:¬65536<u.length:=by have:=A.o;omega
     show Jz (.yes t' u) w _ _
     unfold Jz;dsimp only;rw[Qs Z];have hG:∀b,G b->w.heap.size<=b/\b<y.heap.size:=S.o.gnew;have hk:i3 G y w5:=(l.o.fresh s.o fun g c=>B.o g z1v).keepsB (fun b j=>(hG b j).2) Zh;have aG:=z.o.size;have aH:=l.o.size;have aI:=s.o.size;refine⟨_,d.reverse.flatMap D0,fun b=>G b\/(Vl.slice q d.length cap).ownBlock=nM b,rfl,⟨?_,fun b o n' c' e=> ?_,ar.o.kept hk fun b j=> .inl j, ?_,fun b j=> ?_⟩,(z.o.trans l.o).fresh s.o fun g c=>by have:=B.o g z1v;omega⟩
     .have:=C.o.toC;rw[A.o]at this;rw[List.length_map,A.o];exact this
     .injection e with K e2 e3
      subst K;right
      rcases J.o.2 with⟨a,_⟩|⟨g,cp,aB,H,_⟩
      .injection a with a;cases a
      .injection H with H
       injection H with H
       injection H with ay az
       subst ay;subst az;rfl
     .have:=C.o;rw[A.o]at this;rw[List.length_map,A.o];exact this
     .rcases j with j|j
      .have:=hG b j;omega
      .have a:=B.o b j;have h2:=J.o.lt j;omega
theorem Wk(a:Bt t){l:List Ap}(f:l=(Ai t).map Aw.toI){b:Vl}(c:As w b 6 l.length xs)(d:Az w l xs):Cl prog 16 #[b] w (F9 t w):=by
 subst f;refine(Fk _ b xs w c d (KI a) ?_).mono fun e w' h=>BO.steps a h;have:=(Ar a.fits).1;rw[List.length_map,BL];omega
theorem PE:∀o∈DH,T7 o:=by
 intro o a;have b:=Lj o a;simp only[DH,Qh,List.not_mem_nil,or_false]at a;rcases a with rfl|rfl
 .exact⟨ZM,ZM,b.steps,ZM⟩
 .exact⟨ZM,ZM,b.steps,ZM⟩
theorem Yp:Bt T1:=⟨⟨WJ,rfl,⟨Xb,Xe,Xc,trivial⟩,trivial⟩,ZM⟩
theorem Yq:Bt (.obj [kC] [.null]):=⟨⟨Rc,rfl,trivial,trivial⟩,ZM⟩
theorem TS:∀o∈Fa.map CW.toI,T7 o:=by
 intro o a;simp only[Fa,List.map_cons,List.map_nil,Qh,List.not_mem_nil,or_false]at a;rcases a with rfl|rfl
 .exact⟨ZM,ZM,KI Yq,ZM⟩
 .exact⟨ZM,ZM,(fun s b=>by cases b),ZM⟩
def Vh(A:Nat):List Vl:=BJ Z5 (nS (nM ⟨A,0,nN⟩) 1 1)++(BJ ak IQ++[])
theorem YE(a:Ac w A (AI (Fv f9) IQ) 55):Cc w DH (Vh A):=
 ⟨nS (nM ⟨A,0,nN⟩) 1 1,AI (Fv f9) IQ++[],_,rfl,As.ofBlk a rfl,Az.cons (As.nil w 1) rfl,⟨IQ,[],_,rfl,As.nil w 6,rfl,rfl⟩⟩
def UA(A:Nat):List Vl:=AI (Fv f1) IQ++(AI (Fv f9) IQ++(AI (Fv f2) IQ++(AI (Un 3) IQ++(AI (Ve [kA]) (nS (nM ⟨A,0,nN⟩) 1 1)++[]))))
theorem Y1(a:Ac w A (Ad [kA]) 9)(b:Ac w B (UA A) 55):DX w (nS (nM ⟨B,0,nN⟩) 5 5) Ln:=
 SL (As.ofBlk b rfl) (Az.cons (As.nil _ 1) (Az.cons (As.nil _ 1) (Az.cons (As.nil _ 1) (Az.cons (As.nil _ 1) (Az.cons (As.ofBlk a rfl) rfl)))))
theorem V3:∀s∈Ln,s.keys.length<=4294967296:=by
 intro s a;simp only[Ln,Qh,List.not_mem_nil,or_false]at a;rcases a with rfl|rfl|rfl|rfl|rfl<;>decide
theorem Ko(w:Wl)(hL:Br w)(af:10<=w.heap.size):Cl prog 5 #[] w (BU true w):=by
 have HL:=hZ hL;have X:=hZ af;clear hL af;go_enter func5,ntmps5
 go_wp2_with(first
  |(go_at_call 17;refine(Tc w).mono ?_;rintro e w1 ⟨g,xs,rfl,B,C,D⟩;have K1:=hZ B;have K2:=hZ C;have K3:=hZ D;clear B C D)
  |(go_at_call 16;refine(Wk LH PA K1.o K2.o).mono ?_;rintro e w2 ⟨F,p,rfl,q1,q2,q3,_⟩;have Q1:=hZ q1;have S:=hZ q2;have I:=hZ (K3.o.trans q3);clear q1 q2 q3)
  |(go_at_call 18;refine(Ph f9 _).mono ?_;rintro e q ⟨rfl,h⟩;have Y:=UD (Chg w2 q []) h;clear h))
 obtain⟨A,J⟩:=Ue q.heap.size;obtain⟨E,y⟩:=Ue ((q.alloc (nC (AI (Fv f9) IQ).toArray 55)).alloc (nC (Vh q.heap.size).toArray 44));have o:Chg w2 E []:=by rw[y];exact(Y.o.alloc _).alloc _
 have u:Ac E A (AI (Fv f9) IQ) 55:=by rw[y,J];exact(Ac.new _ _ _).alloc _
 have v:Ac E (A+1) (Vh A) 44:=by rw[y,J];exact BD _ _ _ _ _ rfl Zh
 have P:Hid (Yc E F p T0 DH (nS (nM ⟨A+1,0,nN⟩) 2 2) (Vh A)):=Lib.hid
  ⟨HL.o.kept (I.o.trans o),Q7 X.o (I.o.trans o).size,Q1.o.kept o S.o,fun b a=>Q6 (S.o b a) o.size,LH,As.ofBlk v rfl,YE u,PE,ZM⟩
 have ad:=hZ (I.o.trans o);change Cl _ _ _ ((q.alloc (nC (AI (Fv f9) IQ).toArray 55)).alloc (nC (Vh q.heap.size).toArray 44)) _;rw[<-y,<-J];clear y J o u v Y Q1 S I K1 K2 K3;refine Calls.mono (IB F p T0 DH _ _ E P.o) ?_;rw[KL];rintro e N ⟨n,M,rfl,f,c,i,_⟩;have R1:=hZ f;have d:=hZ c;have T:=hZ i;clear f c i
 go_wp2_with(first
  |(go_at_call 18;refine(Ph _ _).mono ?_;rintro e l ⟨rfl,h⟩;(first|(have S3:=UD (Chg N l []) (S2.o.trans h))|(have S2:=UD (Chg N l []) (S1.o.trans h))|(have S1:=UD (Chg N l []) h));clear h))
 obtain⟨r,K⟩:=Ue l.heap.size;obtain⟨j,z⟩:=Ue ((l.alloc (nC (Ad [kA]).toArray 9)).alloc (nC (UA l.heap.size).toArray 55));have x:Chg N j []:=by rw[z];exact(S3.o.alloc _).alloc _
 have u:Ac j r (Ad [kA]) 9:=by rw[z,K];exact(Ac.new _ _ _).alloc _
 have v:Ac j (r+1) (UA r) 55:=by rw[z,K];exact BD _ _ _ _ _ rfl Zh
 have ae:=UD (DX j (nS (nM ⟨r+1,0,nN⟩) 5 5) Ln) (Y1 u v);have t:=UD (Yc j F p T0 DH (nS (nM ⟨A+1,0,nN⟩) 2 2) (Vh A)) (P.o.kept (T.o.trans x));have H:=hZ (ad.o.trans (T.o.trans x));have m:=UD (CG j n M T1/\∀b,n b->b<j.heap.size) ⟨R1.o.kept x d.o,fun b a=>Q6 (d.o b a) x.size⟩;change Cl _ _ _ ((l.alloc (nC (Ad [kA]).toArray 9)).alloc (nC (UA l.heap.size).toArray 55)) _;rw[<-z,<-K];clear z K x u v S1 S2 S3 R1 d T P ad;refine Calls.mono (Xn F p T0 DH _ _ j t.o) ?_;rw[KL];rintro e W ak;obtain⟨L,ys,G,rfl,f,c⟩:∃L xs G,e= nR (nT #[L,.nilIface])/\EW j W (Fa.map CW.toI) L xs G/\Chg j W []:=ak;have V:=IB n M T1 (Fa.map CW.toI) L ys W ⟨HL.o.kept (H.o.trans c),Q7 X.o (H.o.trans c).size,m.o.1.kept c m.o.2,fun b a=>Q6 (m.o.2 b a) c.size,Yp,f.row,f.ops.toIn,TS,ZM⟩;obtain⟨U,hU⟩:=T5;rw[hU]at V;have aa:=hZ V;have d:=hZ c;obtain⟨sa,sc,rfl,_⟩:=f.row.form;clear f c V hU;go_wp2_with fail;refine aa.o.mono ?_;rintro e k ⟨O,ag,rfl,f,c,i,_⟩;have ab:=UD (CG k n M T1/\∀b,n b->b<k.heap.size) ⟨m.o.1.kept (d.o.trans i) m.o.2,fun b a=>Q6 (m.o.2 b a) (d.o.trans i).size⟩;have Q:=UD (CG k F p T0/\∀b,F b->b<k.heap.size) ⟨t.o.tree.kept (d.o.trans i) t.o.lt,fun b a=>Q6 (t.o.lt b a) (d.o.trans i).size⟩;have R:=UD (CG k O ag T0/\∀b,O b->b<k.heap.size) ⟨f,c⟩;have aj:=UD (DX k (nS (nM ⟨r+1,0,nN⟩) 5 5) Ln) (ae.o.kept (d.o.trans i));have H6:=hZ (H.o.trans (d.o.trans i));clear f c i aa ae t H m d
 go_wp2_with(first
  |(go_at_call 20;refine(TY n M T1 k ab.o.1 ab.o.2 ZM).mono ?_;rintro e w7 ⟨g7,al,G7,am,rfl,B,C,D,k4,k5⟩;have ai:=UD (DX w7 _ Ln) (PW B C k5 rfl);have Z:=hZ D;clear B C D k4 k5)
  |(go_at_call 19;refine(Rf Ln _ _ w7 ai.o (aj.o.kept Z.o) ZM V3).mono ?_;rintro e w8 ⟨rfl,h8⟩;have s:=hZ (Z.o.trans h8);clear h8)
  |(go_at_call 13;refine(OL O F ag p T0 w8 (R.o.1.kept s.o R.o.2) (Q.o.1.kept s.o Q.o.2) (fun b a=>Q6 (R.o.2 b a) s.o.size) (fun b a=>Q6 (Q.o.2 b a) s.o.size) LH).mono ?_;rintro e w9 ⟨rfl,h9⟩;have ah:=hZ (s.o.trans h9);clear h9))
 go_ret;exact⟨rfl,H6.o.trans ah.o⟩
theorem E0{c:Func}{r p q:Tmp}{b:Ti}(h:c.results=#[.tmp r,.cell p b,.tmp q])(a:Array Vl)(w:Wl)(g:Nat)(T:Ti)(cs:List Vl)(d:TypeDesc)(i:a.getD p undef= nP (nM ⟨g,0,nN⟩))(e:Ac w g cs T)(l:P.underlying b=nM d)(f:(match d with| .struct _| .array _ _=>true|_=>false)=true)(hi:(P.info? b).map (·.size)=nM cs.length):
  (results c a).run P w= .ok (nT #[a.getD r undef,nA cs.toArray,a.getD q undef]) w:=by
 have j:a[p]?.getD undef= nP (nM ⟨g,0,nN⟩):=by simpa using i
 have k:=run_loadVar_row (P:=P) w g T b cs.toArray (0,0) d e l f (by simpa using hi);simp[results,h,j,asAddr,k]
theorem Gj{o:Oper}{a:Act}{Q:Exit->Act->Wl->Prop}{K:Act->Wl->Prop}(b:Ti)(x y:Operand)(f:o.op= .store b x y)(g:Nat)(ds:List Vl)(j:a.eval x= nP (nM ⟨g,0,nN⟩))(k:a.eval y= nA ds.toArray)(T:Ti)(cs:List Vl)(c:Ac w g cs T)(hi:(P.info? b).map (·.size)=nM ds.length)(e:cs.length=ds.length)(d:∀v∈ds,v.oneCell'=true)(h:∀w',w'.heap.size=w.heap.size->Ac w' g ds T->Chg w w' [g]->K (a.put o.dst undef) w'):Oper.wp P o a w K Q:=
 wp_store_row b x y f g ds.toArray j k T cs.toArray c (by simpa using hi) (by simpa using e) (Array.all_eq_true_iff_forall_mem.2 fun v i=>d v (by simpa using i))
  (h _ Zh (c.row ds) ((Chg.refl _ _).setRow _ _ Zh))
def ZT(r:Option Tr)(w:Wl)(e:Ending)(w':Wl):Prop:=(match r with
 |some t=>∃(F a:Nat->Prop) (cs:List Vl) (c:Nat),e= nR (nT #[nP (nM ⟨c,0,nN⟩),nA cs.toArray,.bool true])/\AL w' F t cs/\(∀b,F b->w.heap.size<=b/\b<w'.heap.size)/\CG w' a c t/\(∀b,a b->w.heap.size<=b/\b<w'.heap.size)/\Bt t
 |none=>e= nR (nT #[nP nN,nA zV.toArray,.bool false]))/\Chg w w' []
theorem E7(h:AL w F t cs):(∀u∈cs,u.oneCell'=true)/\cs.length=6:=by
 obtain⟨c,d,a,b,ys,rfl,_⟩:=h.uni;exact⟨Mz _ _ _ _ _ _ _ _ _ _,rfl⟩
theorem Ya:∀u∈zV,u.oneCell'=true:=Mz 0 false 0 ⟨#[]⟩ nN nN 0 0 0 0
structure KR(w4:Wl)(R B:Nat)(cs:List Vl)(T:Ti)(s:Nat)(V:Nat->Vl->Prop)(d:Nat->Bool)(f:Nat->Vl)(w:Wl):Prop where
 chg:Chg w4 w [R]
 src:Ac w B cs T
 ne:B≠R
 old:∃ds,Ac w R ds T/\ds.length=cs.length
 dst:d s=true->Ac w R cs T
 vals:∀j,d j=true->V j (f j)
theorem KR.put{b:Wl}{j:Nat}{y:Vl}(h:KR b R B cs T s V d f w)(c:j≠s)(g:V j y):KR b R B cs T s V (BA d j) (Eb f j y) w:=
 ⟨h.chg,h.src,h.ne,h.old,by rw[An d (Ne.symm c)];exact h.dst,fun k a=>by
  by_cases e:k=j
  .subst e;rw[Bf];exact g
  .rw[AA f y e];rw[An d e]at a;exact h.vals k a⟩
theorem KR.stored{g:Wl}{w':Wl}(h:KR g R B cs T s V d f w)(i:V s undef)(a:Ac w' R cs T)(b:Chg w w' [R]):KR g R B cs T s V (BA d s) (Eb f s undef) w':=
 ⟨h.chg.trans b,h.src.kept b (by simpa using h.ne),h.ne,⟨cs,a,rfl⟩,fun _=>a,fun k c=>by
  by_cases e:k=s
  .subst e;rw[Bf];exact i
  .rw[AA f _ e];rw[An d e]at c;exact h.vals k c⟩
def aj(cs:List Vl)(j:Nat)(y:Vl):Prop:=match j with
 |0=>y= nA cs.toArray
 |1=>y= nP nN
 |3=>y= .bool false
 |_=>True
def WS(a:Nat)(cs:List Vl)(j:Nat)(y:Vl):Prop:=match j with
 |0=>y= nP (nM ⟨a,0,nN⟩)
 |1=>y= nA cs.toArray
 |2=>y= .nilIface
 |3=>y= .bool true
 |4=>y= .bool true
 |5=>y= nP (nM ⟨a,0,nN⟩)
 |6=>y= .bool true
 |7=>y= .bool true
 |8=>y= nP (nM ⟨a,0,nN⟩)
 |10=>y= .bool true
 |_=>True
theorem z1o(h:p:=by go_simp;exact j _ _ Zh (c.put ZM (by simp[WS]))):p:=h
theorem z1x(h:p:=by simp[Region.wanted]):p:=h
theorem z1p(h:p:=by obtain⟨ds,d,aq⟩:=c.old;rw[Qr z1x];refine Gj _ _ _ rfl w.heap.size cs H hs 29 ds d A.o aq N.o ?_;intro w' _ ao ap;exact j undef _ (fun _=>rfl) (c.stored trivial ao ap)):p:=h
theorem z1q(h:p:=by exact⟨Chg.refl _ _,am.o,ah.o,⟨zV,ai.o,P.o⟩,(fun e=>by cases e),fun _ e=>by cases e⟩):p:=h
theorem z1t(h:p:=by exact cg cR):p:=h
theorem z1u(h:p:=by exact j _ _ Zh (c.put ZM (by simp[aj]))):p:=h
theorem z1w(h:p:=by rw[Qr (Cw rfl ZN (c.vals 4 (o ⟨4,.guard⟩ Zh rfl)))];exact z1o):p:=h
theorem WL(l:List Ap)(sl:Vl)(xs:List Vl)(w:Wl)(hR:As w sl 6 l.length xs)(hS:Az w l xs)(d:∀s∈l,Di s)(W:l.length<=4294967296):
  Cl prog 4 #[sl] w (ZT (AS l) w):=by
 obtain⟨sa,sc,rfl,aL,aN⟩:=hR.form;have O:=UD (∀v,Chg w v []->Cl prog 15 #[nS sa l.length sc] v (ZY (AS l) v)) fun v Y=>Vq l _ xs v (hR.kept Y) (Az.kept Y hS) d W;have L:=UD (∀v,Chg w v []->Cl prog 16 #[nS sa l.length sc] v (BO l v)) fun v Y=>Fk l _ xs v (hR.kept Y) (Az.kept Y hS) d W;have af:=UD (∀t,AS l=nM t->Bt t) fun t ht=>FD d ht;have e0:(if l.length<=65536 then CA l else nN)=AS l:=rfl;obtain⟨n,hn⟩:=Ue l.length;unfold BO at L;rw[e0]at L;rw[<-hn]at O L|-;clear hR hS d W aN aL hn e0;cases T:AS l with
 |none=>
  rw[T]at O;clear L af T;go_enter func4,ntmps4;go_wp2_with fail;refine(O.o _ z1t).mono ?_;rintro e g ⟨rfl,x⟩;have H1:=UD (Chg w g []) (((Chg.refl w []).alloc _).trans x);have E:=UD (Ac g w.heap.size zV 29) ((BD w _ zV _ _ rfl rfl).kept x);obtain⟨cs,M⟩:=Ue zV;have A:=UD ((prog.info? 29).map (·.size)=nM cs.length) (by rw[M];exact A9);have N:=UD (∀u∈cs,u.oneCell'=true) (by rw[M];exact Ya);have P:=UD (zV.length=cs.length) (by rw[M]);have aE:=hZ M;rw[<-M];clear x M;go_wp2_with(refine Ae rfl _ _ _ rfl g.heap.size cs ZN ZN 29 zV (BD _ _ zV _ _ rfl rfl) A.o P.o N.o ?_;intro w2 ar S V;have ab:=hZ S;have D:=UD (Chg g w2 []) (Chg.step (b:=_) z1t V (fun i hi W=>by simp at hi;omega));clear ar S V);obtain⟨k,q⟩:=Ue (World.drew w2);have an:=hZ q;have H5:Hid (Chg w k []):=by rw[q];exact hZ (H1.o.trans D.o).drew
  have ai:Hid (Ac k w.heap.size zV 29):=by rw[q];exact hZ (E.o.kept D.o).drew
  have am:Hid (Ac k g.heap.size cs 29):=by rw[q];exact hZ ab.o.drew
  have ah:=UD (g.heap.size≠w.heap.size) (by have:=E.o.lt;omega);clear q;refine wp_region_any Yb ?_;change wpAny _ _ _ _ _ _ _ (World.drew _);rw[<-an.o];refine Dg _ (KR k w.heap.size g.heap.size cs 29 2 (aj cs)) Yb ?_ ?_ _ ?_
  .intro ii op a wa dd G f aM o aJ c K j;match ii,G with
   |0,rfl=>
    have H:a.tmps.getD 5 undef= nP (nM ⟨g.heap.size,0,nN⟩):=f.at 5 Yb;rw[Qr z1x];refine Bd _ _ rfl _ H 29 _ c.src _ underlying29 rfl A.o ?_;exact z1u
   |1,rfl=>
    go_simp;exact z1u
   |2,rfl=>
    have H:a.tmps.getD 3 undef= nP (nM ⟨w.heap.size,0,nN⟩):=f.at 3 Yb;have hs:a.tmps.getD 16 undef= nA cs.toArray:=c.vals 0 (o ⟨0,.data⟩ Zh rfl);exact z1p
   |3,rfl=>
    go_simp;exact z1u
   |_+4,G=>exact absurd G Zh
  .intro a wR dd f C c;have R:=c.dst (C 2 ZM);have y:a.tmps.getD 2 undef= nP nN:=c.vals 1 (C 1 ZM);have B:a.tmps.getD 4 undef= .bool false:=c.vals 3 (C 3 ZM);have ak:=hZ R;have al:=UD (Chg w wR []) (H5.o.fresh c.chg (fun i hi=>by simp at hi;omega));clear c C R;have r:=f.form' [16,2,4] Yb;have U:=f.defers;obtain⟨m,df⟩:=a;clear f;dsimp only[Act.put]at r U y B;simp only[List.foldl_cons,List.foldl_nil]at r;obtain⟨u16,av⟩:=Ue (m.getD 16 undef);obtain⟨u2,I⟩:=Ue (m.getD 2 undef);obtain⟨u4,J⟩:=Ue (m.getD 4 undef);rw[<-av,<-I,<-J]at r;rw[<-I]at y;rw[<-J]at B;clear av I J;simp only[List.setIfInBounds_toArray,List.set_cons_zero,List.set_cons_succ]at r;subst r;subst U;subst y;subst B;go_wp2_with fail;refine bodyPost_ret (E0 rfl _ _ w.heap.size 29 cs _ rfl ak.o underlying29 rfl A.o) rfl ?_;rw[aE.o];exact⟨rfl,al.o⟩
  .exact z1q
 |some t=>
  rw[T]at O L;have aF:=UD (Bt t) (af.o t T);clear af T;go_enter func4,ntmps4;go_wp2_with fail;refine(O.o _ z1t).mono ?_;rintro e g ⟨⟨F,cs,rfl,X,f,hw⟩,x⟩;have H1:=UD (Chg w g []) (((Chg.refl w []).alloc _).trans x);have E:=UD (Ac g w.heap.size zV 29) ((BD w _ zV _ _ rfl rfl).kept x);have au:=hZ X;have ae:=UD (∀b,F b->w.heap.size<b/\b<g.heap.size) (fun b d=>by have:=f b d;simp at this;omega);have A:=UD ((prog.info? 29).map (·.size)=nM cs.length) (by rw[(E7 X).2];exact A9);have N:=hZ (E7 X).1;have P:=UD (zV.length=cs.length) (by rw[(E7 X).2];rfl);clear x X f hw
  go_wp2_with(first
   |(refine Ae rfl _ _ _ rfl g.heap.size cs ZN ZN 29 zV (BD _ _ zV _ _ rfl rfl) A.o P.o N.o ?_;intro w2 ar S V;have ab:=hZ S;have D:=UD (Chg g w2 []) (Chg.step (b:=_) z1t V (fun i hi W=>by simp at hi;omega));clear ar S V)
   |(go_at_call 16;refine(L.o w2 (H1.o.trans D.o)).mono ?_;rintro e w3 ⟨⟨Z,z,rfl,k1,k2,k3,k4,k5⟩,k6⟩;have K1:=hZ k1;have K2:=hZ k2;have K4:=hZ k4;have K5:=hZ k5;have K6:=hZ k6;clear k1 k2 k3 k4 k5 k6))
  obtain⟨k,q⟩:=Ue (World.drew w3);have an:=hZ q;have Q:Chg g k []:=by rw[q];exact(D.o.trans K6.o).drew
  have H5:=UD (Chg w k []) (H1.o.trans Q);have ai:=UD (Ac k w.heap.size zV 29) (E.o.kept Q);have am:Hid (Ac k g.heap.size cs 29):=by rw[q];exact hZ (ab.o.kept K6.o).drew
  have ah:=UD (g.heap.size≠w.heap.size) (by have:=E.o.lt;omega);have aI:=UD (AL k F t cs) (AL.kept (Q.keepsF (fun b d=>(ae.o b d).2)) (fun _ h=>h) _ _ au.o);have aG:Hid (CG k Z z t):=by rw[q];exact hZ (K1.o.kept (Chg.refl w3 []).drew K2.o)
  have ag:=UD (∀b,Z b->w.heap.size<b/\b<k.heap.size) (fun b d=>by have x:=K4.o b d;have y:=K2.o b d;have h3:=D.o.size;have B:=E.o.lt;rw[q];exact⟨Zj,y⟩);have aH:=UD (w.heap.size<z) (by have x:=K5.o;have h3:=D.o.size;have B:=E.o.lt;omega);have ad:=UD (∀b,F b->w.heap.size<b/\b<k.heap.size) (fun b d=>by have x:=ae.o b d;have y:=Q.size;omega);clear q Q K1 K2 K4 K5 K6 au ae;refine wp_region_any Yb ?_;change wpAny _ _ _ _ _ _ _ (World.drew _);rw[<-an.o];refine Dg _ (KR k w.heap.size g.heap.size cs 29 9 (WS z cs)) Yb ?_ ?_ _ ?_
  .intro ii op a wa dd G f aM o aJ c K j;match ii,G with
   |0,rfl=>
    have h7:rS a 7= nP (nM ⟨z,0,nN⟩):=f.at 7 Yb;exact z1o
   |1,rfl=>
    have H:a.tmps.getD 5 undef= nP (nM ⟨g.heap.size,0,nN⟩):=f.at 5 Yb;rw[Qr z1x];refine Bd _ _ rfl _ H 29 _ c.src _ underlying29 rfl A.o ?_;exact j _ _ Zh (c.put ZM (by simp[WS]))
   |2,rfl=>
    have h8:rS a 8= .nilIface:=f.at 8 Yb;exact z1o
   |3,rfl=>
    have aP:rS a 24= .nilIface:=c.vals 2 (o ⟨2,.data⟩ Zh rfl);exact z1o
   |4,rfl=>
    have aQ:rS a 25= .bool true:=c.vals 3 (o ⟨3,.data⟩ Zh rfl);exact z1o
   |5,rfl=>
    have h7:rS a 7= nP (nM ⟨z,0,nN⟩):=f.at 7 Yb;exact z1w
   |6,rfl=>
    have aS:rS a 27= nP (nM ⟨z,0,nN⟩):=c.vals 5 (o ⟨5,.data⟩ Zh rfl);exact z1w
   |7,rfl=>
    have aR:rS a 26= .bool true:=c.vals 4 (o ⟨4,.data⟩ Zh rfl);have aT:rS a 28= .bool true:=c.vals 6 (o ⟨6,.data⟩ Zh rfl);exact z1o
   |8,rfl=>
    have aO:rS a 22= nP (nM ⟨z,0,nN⟩):=c.vals 0 (o ⟨0,.data⟩ Zh rfl);exact z1o
   |9,rfl=>
    have H:a.tmps.getD 3 undef= nP (nM ⟨w.heap.size,0,nN⟩):=f.at 3 Yb;have hs:a.tmps.getD 23 undef= nA cs.toArray:=c.vals 1 (o ⟨1,.data⟩ Zh rfl);exact z1p
   |10,rfl=>
    have aU:rS a 29= .bool true:=c.vals 7 (o ⟨7,.data⟩ Zh rfl);exact z1o
   |_+11,G=>exact absurd G Zh
  .intro a wR dd f C c;have R:=c.dst (C 9 ZM);have y:a.tmps.getD 2 undef= nP (nM ⟨z,0,nN⟩):=c.vals 8 (C 8 ZM);have B:a.tmps.getD 4 undef= .bool true:=c.vals 10 (C 10 ZM);have ak:=hZ R;have aa:=hZ c.chg;have al:=UD (Chg w wR []) (H5.o.fresh c.chg (fun i hi=>by simp at hi;omega));clear c C R;have r:=f.form' [22,23,24,25,26,27,28,29,2,4] Yb;have U:=f.defers;obtain⟨m,df⟩:=a;clear f;dsimp only[Act.put]at r U y B;simp only[List.foldl_cons,List.foldl_nil]at r;obtain⟨u22,aw⟩:=Ue (m.getD 22 undef);obtain⟨u23,ax⟩:=Ue (m.getD 23 undef);obtain⟨u24,ay⟩:=Ue (m.getD 24 undef);obtain⟨u25,az⟩:=Ue (m.getD 25 undef);obtain⟨u26,aA⟩:=Ue (m.getD 26 undef);obtain⟨u27,aB⟩:=Ue (m.getD 27 undef);obtain⟨u28,aC⟩:=Ue (m.getD 28 undef);obtain⟨u29,aD⟩:=Ue (m.getD 29 undef);obtain⟨u2,I⟩:=Ue (m.getD 2 undef);obtain⟨u4,J⟩:=Ue (m.getD 4 undef);rw[<-aw,<-ax,<-ay,<-az,<-aA,<-aB,<-aC,<-aD,<-I,<-J]at r;rw[<-I]at y;rw[<-J]at B;clear aw ax ay az aA aB aC aD I J;simp only[List.setIfInBounds_toArray,List.set_cons_zero,List.set_cons_succ]at r;subst r;subst U;subst y;subst B;go_wp2_with fail;refine bodyPost_ret (E0 rfl _ _ w.heap.size 29 cs _ rfl ak.o underlying29 rfl A.o) rfl ?_;have hz:=aa.o.size;obtain⟨tv,t1,t2,t3⟩:=aG.o;have aK:BZ Z k wR:=aa.o.keepsF (fun b d=>(ag.o b d).2) (fun b d hm=>by simp at d;subst d;have:=(ag.o _ hm).1;omega);refine⟨⟨F,Z,cs,z,rfl,AL.kept (aa.o.keepsF (fun b d=>(ad.o b d).2) (fun b d hm=>by simp at d;subst d;have:=(ad.o _ hm).1;omega)) (fun _ h=>h) _ _ aI.o,fun b d=>by have:=ad.o b d;omega,⟨tv, ?_,Af.kept aK (fun _ h=>h) _ _ t2,Zj⟩,fun b d=>by have:=ag.o b d;omega,aF.o⟩,al.o⟩;rw[aa.o.cell (p:=⟨z,0,nN⟩) t3 (by have:=aH.o;simp;omega)];exact t1
  .exact z1q
structure fT(w0:Wl)(os:List Bq)(i:Nat)(sv:Vl)(w:Wl):Prop where
 ex:∃xs G,Ba w sv 44 4 i xs/\Eh w G (os.take i) xs/\(∀b,G b->w0.heap.size<=b/\b<w.heap.size)/\∀g,sv.ownBlock=nM g->w0.heap.size<=g/\¬G g
 chg:Chg w0 w []
theorem fT.next{wr c t k:Wl}{i g cap:Nat}{p:Vl}{ys:List Vl}{G d:Nat->Prop}(v:Chg w0 wr [])(C:Ba wr sv 44 4 i xs)(D:Eh wr G (os.take i) xs)(r:∀b,G b->w0.heap.size<=b/\b<wr.heap.size)(n:∀g,sv.ownBlock=nM g->w0.heap.size<=g/\¬G g)(I:os[i]? =nM o)(q:Chg wr c [])(E:Ba c p 55 6 o.steps.length ys)(u:SE d p)(F:Cr c d o.steps ys)(f:∀b,d b->wr.heap.size<=b/\b<c.heap.size)(l:Chg c t [])(B:Ba k (nS (nM ⟨g,0,nN⟩) (i+1) cap) 44 4 (i+1) (xs++BJ o p))(m:Chg t k sv.ownBlock.toList)(H:sv.ownBlock=nM g\/g=t.heap.size):fT w0 os (i+1) (nS (nM ⟨g,0,nN⟩) (i+1) cap) k:=by
 have L:=q.size;have M:=l.size;have N:=m.size;have K:=v.size;have w:∀y,sv.ownBlock=nM y->y<wr.heap.size:=fun y j=>C.lt j;have J:i3 G wr k:=((q.trans l).none sv.ownBlock.toList|>.trans m).keepsB (fun b a=>(r b a).2) (fun b s a=>(n b (by simpa using s)).2 a);have x:i3 d c k:=((l.none sv.ownBlock.toList).trans m).keepsB (fun b a=>(f b a).2) (fun b s a=>by have z:=w b (by simpa using s);have A:=(f b a).1;omega);refine⟨⟨_,fun b=>G b\/d b,B, ?_,fun b a=> ?_,fun y j=> ?_⟩,((v.trans q).trans l).fresh m (fun y j=>(n y (by simpa using j)).1)⟩
 .rw[Cb I];refine(Eh.kept J (fun _ h=> .inl h) D).append ⟨p,ys,[],by simp,E.keptF u x,u.mono (fun _ h=> .inr h),Cr.kept x (fun _ h=> .inr h) F,rfl⟩
 .rcases a with a|a
  .have:=r b a;omega
  .have:=f b a;omega
 .have e:g=y:=by injection j
  subst e;rcases H with h|h
  .refine⟨(n g h).1,fun a=> ?_⟩;rcases a with a|a
   .exact(n g h).2 a
   .have z:=w g h;have A:=(f g a).1;omega
  .refine⟨by omega,fun a=> ?_⟩;rcases a with a|a
   .have:=r g a;omega
   .have:=f g a;omega
theorem fT.done{n:Nat}(h:fT w0 os n sv w)(j:n=os.length):∃xs G,EW w0 w os sv xs G:=by
 obtain⟨xs,G,d,f,g,i⟩:=h.ex;subst j;rw[List.take_length]at f;refine⟨xs,fun b=>G b\/sv.ownBlock=nM b,d.rowC (by rw[f.length]),fun b o n c e=> ?_,Eh.kept (fun _ _=>rfl) (fun _ h=> .inl h) f,d,fun b a=> ?_⟩
 .rw[e];exact .inr rfl
 .rcases a with a|a
  .exact g b a
  .exact⟨(i b a).1,d.lt a⟩
theorem fT.start{a:Wl}(h:Chg w a []):fT w os 0 (nS nN 0 0) a:=⟨⟨[],fun _=>False,Ba.nil _ _ _,rfl,fun b (c:False)=>c.elim,fun g d=>by cases d⟩,h⟩
theorem fX(k:Nat)(h:k<100000):(⟨(Go.Lib.decDigits k).toArray⟩:BY).size<=11:=by
 have a:=(IX 5 k h).resolve_right (by omega);show(Go.Lib.decDigits k).toArray.size<=11
 rw[List.size_toArray];omega
theorem gu(i:Nat)(h:i<100000):(XP i).size<=1000:=by
 have:=fX i h;unfold XP;rw[ByteArray.size_append];have:Zb.size=1:=rfl;omega
theorem gd{u:Tr}(h:Bt t)(a:u∈Ab t):Bt u:=⟨h.good.items u a,C8 h.fits a⟩
def gm(l:List Tr)(os:List CW):Prop:=∀(j:Nat) (t:Tr),l[j]? =nM t->∃ks m o,t= .obj ks m/\os[j]? =nM o/\Xi ks m (XP j)= .yes o
def gE(os:List Bq)(w:Wl)(e:Ending)(w':Wl):Prop:=∃a xs G,e= nR (nT #[a,.nilIface])/\EW w w' os a xs G/\Chg w w' []
theorem gl(l:List Tr)(os:List CW)(F:Nat->Prop)(T:Nat)(w:Wl)(hL:Br w)(aa:dM w)(hT:CG w F T (.list l))(hF:∀b,F b->b<w.heap.size)(B:Bt (.list l))(af:os.length=l.length)(ho:gm l os):
  Cl prog 14 #[nP (nM ⟨T,0,nN⟩)] w (gE (os.map CW.toI) w):=by
 have HV:=hZ (M9 (.list l) F T w hT hF (Ar B.fits).1);have ag:l.length<=65536:=by have:=B.many;simp only[Ab]at this;omega
 have W:=hZ hL;have aw:=hZ aa;have HO:=hZ ho;have aq:=hZ B;have Y:=hZ ag;have X:=hZ af;have aA:∀(a:Option Addr) (n c:Nat) (w:Wl),(Instr.typeAssert (nF 92 (nS a n c)) 95 92 true).run prog w= .ok (nT #[nS a n c,.bool true]) w:=fun _ _ _ _=>by kernel_rfl
 clear hL aa hT hF B af ho ag;go_enter func14,ntmps14
 go_wp2_with(first
  |(go_at_call 33;refine HV.o.mono ?_;rintro e E ⟨v,G,rfl,D,h1,hG⟩;simp only[Hm]at D;obtain⟨sl,vs,rfl,hr,O⟩:=D;have an:=O.length;obtain⟨va,vc,rfl,ad⟩:=hr.cell;rw[an];have p:=hZ h1;have HG:=hZ hG;have HK:=hZ O;have ap:=hZ ad;clear hr an h1 hG O ad))
 obtain⟨n,R⟩:∃n,n=l.length:=⟨_,rfl⟩;rw[<-R]at Y X|-;have HN:=hZ R;have Z:Hid (fT E (os.map CW.toI) 0 (nS nN 0 0) E):=hZ (fT.start (Chg.refl E []));have aE:=Y.o;clear R;go_loopw [28,6] (fun U v6 wr=>∃(i:Nat) (q:Option Addr) (cap:Nat),i<=n/\U= nI nX i/\v6= nS q i cap/\fT E (os.map CW.toI) i v6 wr) (fun U _ _=>n-(intOf U).toNat)
 case atStart=>exact⟨0,nN,0,by omega,rfl,rfl,Z.o⟩
 case round=>
  obtain⟨i,q,cap,hi,rfl,rfl,Q⟩:=hrel;have J:=hZ Q;have h:=hZ Q.chg;clear Q Z;by_cases aD:i<n
  .obtain⟨t,C⟩:∃t,l[i]? =nM t:=⟨_,Q9 (by have:=HN.o;omega)⟩;obtain⟨ks,m,o,rfl,ai,ah⟩:=HO.o i t C;obtain⟨v',al,am⟩:=HK.o.get i _ C;simp only[Hm]at am;obtain⟨k,r,us,rfl,P,ak,ae⟩:=am;obtain⟨b,oo,rfl,_,ab⟩:=ap.o i _ al;have c0:wr.cell? ⟨b,oo+i,nN⟩=nM (nF 100 (nS k m.length r)):=h.o.keeps ab;have N:Bt (.obj ks m):=gd aq.o (Qi C);have aj:eR ks m us G k wr:=eR.kept ⟨P,ak,ae,fun y hy=>(HG.o y hy).2,by have:=N.many;simp only[Ab]at this;omega⟩ h.o;obtain⟨K,A⟩:∃d:BY,d=⟨(Go.Lib.decDigits i).toArray⟩:=⟨_,rfl⟩;have aC:K.size<=11:=by rw[A];exact fX i (by omega)
   have au:Hid (∀f,Chg wr f []->Cl prog 36 #[nS k m.length r,nG (⟨#[47]⟩++K)] f (fV o.toI f)):=hZ fun f s=>by
    have:=gq ks m us G k r (XP i) o f (W.o.kept ((p.o.trans h.o).trans s)) (aw.o.kept ((p.o.trans h.o).trans s)) (aj.kept s) (gu i (by omega)) (fun u hu=>gd N hu) ah;rw[P]at this;rw[A];exact this
   have ar:Hid (∀f,Chg wr f []->Cl prog 35 #[nI nX i] f (fun e w'=>e= nR (nG K)/\Chg f w' [])):=hZ fun f s=>by
    have:=Ri (i:Int) (by omega) (by omega) f (W.o.kept ((p.o.trans h.o).trans s));rw[Mc,<-A]at this;exact this
   have av:=hZ ai;have aB:∀(w:Wl),(Instr.typeAssert (nF 100 (nS k m.length r)) 95 100 true).run prog w= .ok (nT #[nS k m.length r,.bool true]) w:=fun _=>by kernel_rfl
   clear C ai ah al P ak ae ab N aj A
   go_wp2_with(first
    |(go_at_call 35;refine(ar.o _ (Chg.refl _ _)).mono ?_;rintro e w3 ⟨rfl,h3⟩;have I:=hZ h3;clear h3)
    |(go_at_call 36;refine(au.o _ I.o).mono ?_;rintro e H ⟨sv,ys,G1,M,S,q2,q3,q4,q5⟩;obtain⟨x,z,rfl,_⟩:=S.form;have M:e= nR (nT #[nA #[nI nX o.toI.kind,nG o.toI.path,nG o.toI.frm,nS x o.toI.steps.length z],.nilIface]):=M;subst M;have Q1:=hZ S;have Q2:=hZ q2;have Q3:=hZ q3;have Q4:=hZ q4;have V:=hZ (I.o.trans q5);have ao:Hid (wr.heap.size<=w3.heap.size):=hZ I.o.size;clear S q2 q3 q4 q5)
    |(refine Bp rfl _ _ rfl H.heap.size (by rfl) 44 [nI nX o.toI.kind,nG o.toI.path,nG o.toI.frm,nS x o.toI.steps.length z] (by exact BD H _ [nI nX o.toI.kind,nG o.toI.path,nG o.toI.frm,nS x o.toI.steps.length z] _ _ rfl rfl) _ underlying44 rfl A0 ?_)
    |(obtain⟨xs,G2,L,e2,e3,e4⟩:=J.o.ex;refine Er rfl _ _ 23 rfl 44 _ 4 64 (by decide) underlying23 JK rfl (nS q i cap) i xs (by rfl) ((L.kept V.o).kept (bs:=[]) (((Chg.refl _ _).alloc _).alloc _) (by simp)) (H.heap.size+1) 0 1 1 (BJ o.toI (nS x o.toI.steps.length z)) (by rfl) (by omega) (by rfl) (fun j v D=>by rw[Nat.zero_add];exact((BD _ _ (BJ o.toI (nS x o.toI.steps.length z)) _ _ rfl (by simp)).cell j).trans D) (Dx _ _ _ _) (by omega) (by omega) ?_;intro g ax w7 k1 k2 k3;have K1:=hZ k1;have K2:=hZ k2;have K3:=hZ k3;have E1:=hZ L;have E2:=hZ e2;have E3:=hZ e3;have E4:=hZ e4;clear k1 k2 k3 L e2 e3 e4))
   go_roundw
   case rel=>
    have az:=fT.next J.o.chg E1.o E2.o E3.o E4.o (by rw[List.getElem?_map,av.o];rfl) V.o Q1.o Q2.o Q3.o (fun b hb=>⟨Q7 ao.o (Q4.o b hb).1,(Q4.o b hb).2⟩) (((Chg.refl H []).alloc _).alloc _) K1.o K2.o K3.o;exact⟨i+1,_,ax,by omega,by go_num,rfl,az⟩
   case measure=>simp[intOf];omega
  .obtain rfl:i=n:=by omega
   go_wp2_with fail;go_ret2;obtain⟨xs,G,ay⟩:=fT.done J.o (by rw[List.length_map,X.o]);exact⟨_,xs,G,rfl,ay.kept (Chg.refl _ []) (by simp) p.o.size,p.o.trans h.o⟩
end
section
open Go Go.Shelf Go.RowKit Go.Lib Tree Ptr

theorem T7.toB{o:Bq}(h:T7 o):ZL o:=⟨Q7 h.path ZM,Q7 h.frm ZM,h.steps⟩
structure UG(w:Wl)(so:Vl)(ops:List Bq)(xs:List Vl):Prop where
 row:As w so 4 ops.length xs
 at_:Cc w ops xs
 small:∀o∈ops,T7 o
 many:ops.length<=4294967296
theorem UG.kept{w w':Wl}{c:Vl}{b:List Bq}{xs:List Vl}(h:UG w c b xs)(a:Chg w w' []):UG w' c b xs:=
 ⟨h.row.kept a,Cc.kept a h.at_,h.small,h.many⟩
structure aq(w:Wl)(sl:Vl)(l:List Ap)(xs:List Vl):Prop where
 row:As w sl 6 l.length xs
 at_:Az w l xs
 small:∀s∈l,Di s
 many:l.length<=4294967296
end
section
open _root_.Go.Proofs.Tryz
open Go Go.Shelf Go.RowKit Go.Lib Tree Ptr
variable{w:Wl}
theorem fZ(d:Nat)(a:Option Addr)(n c:Nat)(w:Wl)(h:65536<n)(i:n<=4294967296):
  Cl prog 8 #[nP (nM ⟨d,0,nN⟩),nS a n c] w fun e w'=>e= nR (nT #[nS nN 0 0,nF 70 (nI nX 3)])/\Chg w w' []:=by
 have g:=hZ (cN d a n c w h i);go_enter func8,ntmps8;go_wp2_with((go_at_call 23;refine g.o.mono ?_;rintro e j ⟨rfl,b⟩;have f:=hZ b;clear b));go_ret2;exact⟨rfl,f.o⟩
theorem gh(a:Option Addr)(n c:Nat)(w:Wl)(d:65536<n)(f:n<=4294967296):
  Cl prog 9 #[nS a n c] w fun e w'=>e= nR (nT #[nP nN,nF 70 (nI nX 3)])/\Chg w w' []:=by
 have b:(65536:Int)<(n:Int):=Zj;go_enter func9,ntmps9;go_wp2_with fail;go_ret2;exact⟨rfl,Chg.refl _ _⟩
theorem gf:∀{c:List Bq} {l:List Tr} {i:Nat} {t:Tr},Sp l i c= .yes t->(Ag (.list l)).within=true->(Ag t).within=true
 |[],l,i,t,h,a=>by simp only[Sp]at h;injection h with h;rw[<-h];exact a
 |o::r,l,i,t,h,a=>by
  simp only[Sp]at h;split at h
  .cases h
  .split at h
   .rename_i b;exact gf h b
   .cases h
def gw(w:Wl)(e:Ending)(w':Wl):Prop:=∃a x,e= nR (nT #[nP nN,nF a x])/\Chg w w' []
def gD(w:Wl)(e:Ending)(w':Wl):Prop:=∃a x,e= nR (nT #[nS nN 0 0,nF a x])/\Chg w w' []
theorem gr{c:List Bq}(h:∀o∈c,Bn o=0):gm (c.map OK) (c.map WZ):=by
 intro j t a;rw[List.getElem?_map]at a;cases b:c[j]? with
 |none=>rw[b]at a;cases a
 |some o=>
  rw[b]at a;injection a with a
  obtain⟨ks,m,d,e⟩:=Xj (h o (Qi b)) (XP j);exact⟨ks,m,WZ o,by rw[<-a,d],by rw[List.getElem?_map,b];rfl,e⟩
theorem gA{a:List Bq}{F:Nat->Prop}{f:Nat}(k:Br w)(m:dM w)(l:CG w F f (.list (a.map OK)))(j:∀b,F b->b<w.heap.size)(p:Bt (.list (a.map OK)))(i:∀o∈a,Bn o=0):
  Cl prog 14 #[nP (nM ⟨f,0,nN⟩)] w fun e w'=>∃c d xs G,e= nR (nT #[nS c a.length d,.nilIface])/\EW w w' (a.map fy) (nS c a.length d) xs G/\Chg w w' []:=by
 refine(gl (a.map OK) (a.map WZ) F f w k m l j p Zh (gr i)).mono ?_;rintro e w' ⟨q,xs,G,rfl,h,n⟩;have g:(a.map WZ).map CW.toI=a.map fy:=by rw[List.map_map];rfl
 rw[g]at h;obtain⟨c,d,rfl,_⟩:=h.row.form;rw[List.length_map]at h|-;exact⟨c,d,xs,G,rfl,h,n⟩
def gF(a b X:Nat)(sv:Vl)(j:Nat)(y:Vl):Prop:=match j with
 |0=>y= .nilIface
 |3=>y= .nilIface
 |7=>y= nP (nM ⟨a,0,nN⟩)
 |8=>y= nP (nM ⟨b,0,nN⟩)
 |9=>y= .bool true
 |13=>y= nP (nM ⟨a,0,nN⟩)
 |14=>True
 |15=>y= nP (nM ⟨X,3,nN⟩)
 |16=>y=sv
 |17=>y= .bool true
 |_=>y= .bool false
structure gc(x:Tr)(ta tc X:Nat)(sv:Vl)(w4:Wl)(d:Nat->Bool)(f:Nat->Vl)(w:Wl):Prop where
 chg:Chg w4 w []
 vals:∀j,d j=true->gF ta tc X sv j (f j)
 s1:d 14=true->DX w (f 14) (MW x)
theorem gc.put{x:Tr}{a b X:Nat}{sv:Vl}{m w':Wl}{d:Nat->Bool}{f:Nat->Vl}{j:Nat}{y:Vl}(h:gc x a b X sv m d f w)(c:(14:Nat)≠j)(n:gF a b X sv j y)(g:Chg w w' []):gc x a b X sv m (BA d j) (Eb f j y) w':=
 ⟨h.chg.trans g,fun k l=>by
  by_cases e:k=j
  .subst e;rw[Bf];exact n
  .rw[AA f y e];rw[An d e]at l;exact h.vals k l,fun i=>by rw[AA f y c];rw[An d c]at i;exact(h.s1 i).kept g⟩
theorem iJ{w0:Wl}{os:List Bq}{B c:Nat}(a:Ba w (nS (nM ⟨B,0,nN⟩) 0 c) 44 4 0 [])(f:w0.heap.size<=B)(h:Chg w0 w []):fT w0 os 0 (nS (nM ⟨B,0,nN⟩) 0 c) w:=
 ⟨⟨[],fun _=>False,a,rfl,fun b (d:False)=>d.elim,fun g e=>⟨by simp[Vl.ownBlock]at e;omega,id⟩⟩,h⟩
def jb(b:List Bq)(w:Wl)(e:Ending)(w':Wl):Prop:=∃a xs G,e= nR a/\EW w w' b a xs G/\Chg w w' []
theorem z1y{p:Prop}(h:p:=by have:=Q.o;omega):p:=h
theorem iD(z:List Bq)(so:Vl)(xs:List Vl)(w:Wl)(hR:As w so 4 z.length xs)(hI:Cc w z xs)(B:∀o∈z,T7 o)(hn:z.length<=4294967296):
  Cl prog 6 #[so] w (jb z w):=by
 obtain⟨sa,sc,rfl,_⟩:=hR.form;have HR:=hZ hR;have HI:=hZ hI;have HS:=hZ B;obtain⟨n,ah⟩:=Ue z.length;have Q:=hZ ah;rw[<-ah]at hn|-;clear hR hI B ah;go_enter func6,ntmps6;go_wp2_with((at_make;refine KM rfl _ _ _ rfl 44 (nA #[nI nX 0,nG ⟨#[]⟩,nG ⟨#[]⟩,nS nN 0 0]) 4 64 underlying23 JK _ _ _ (n+2) rfl rfl (by first|rfl|omega) Zj (by unfold maxLen;omega) w.heap.size Zh ?_;intro w1 r aL;have av:=hZ r;have ap:=hZ aL;clear r aL));go_loopw [15,3] (fun al v3 wr=>∃i:Nat,i<=n/\al= nI nX i/\fT w z i v3 wr) (fun al _ _=>n-(intOf al).toNat)
 case atStart=>exact⟨0,Zj,rfl,iJ av.o (Q8 _) ap.o⟩
 case round=>
  obtain⟨i,hi,rfl,aP⟩:=hrel;have A:=hZ aP;clear aP av ap;by_cases be:i<n
  .obtain⟨o,R⟩:∃o,z[i]? =nM o:=⟨_,Q9 z1y⟩;obtain⟨b,ob,rfl,_⟩:=HR.o.base z1y ZM;obtain⟨sv,yv,aj,aS,aQ⟩:=Cc.item HR.o z1y HI.o R;obtain⟨U,V,rfl,_⟩:=aj.form;have a:∀j x,(BJ o (nS U o.steps.length V))[j]? =nM x->wr.cell? ⟨b,ob+i*4+j,nN⟩=nM x:=fun j x hx=>A.o.chg.keeps (aQ j x hx);have c0:=a 0 _ rfl;have c1:=a 1 _ rfl;have c2:=a 2 _ rfl;have c3:=a 3 _ rfl;rw[Nat.add_zero]at c0;obtain⟨bc,G0,ab,aD,aB,aK⟩:=A.o.ex;obtain⟨qa,qc,rfl,_⟩:=ab.form;have ad:=HS.o o (Qi R);have HO:=hZ R;have ay:=hZ aj;have a4:=hZ aS;have au:=hZ ab;have a0:=hZ aD;have aY:=hZ aB;have a5:=hZ aK;have a1:=hZ ad;have az:=hZ A.o.chg;obtain⟨m,t⟩:=Ue o.steps.length;have bg:m<=4294967296:=by have:=ad.len;omega
   have P:=hZ t;rw[<-t]at ay c3;clear t R a aQ aj aS ab aD aB aK ad A;go_wp2_with((at_make;refine KM rfl _ _ _ rfl 55 Iq 6 72 underlying22 DM _ _ _ (m+2) rfl rfl (by first|rfl|omega) Zj (by unfold maxLen;omega) (wr.heap.size+1) Zh ?_;intro w2 aC af;have aw:=hZ aC;have aq:=hZ af;have H:=hZ ((Ac.new wr [nI nX o.kind,nG o.path,nG o.frm,nS U m V] 44).kept af);obtain⟨lx,fx,x0,x1,x2,x3⟩:=Ac.cells4 H.o;clear aC af));obtain⟨M,ak⟩:=Ue (wr.alloc (nC #[nI nX o.kind,nG o.path,nG o.frm,nS U m V] 44));have C:Hid (Chg wr M []/\M.heap.size=wr.heap.size+1/\Ac M wr.heap.size [nI nX o.kind,nG o.path,nG o.frm,nS U m V] 44):=by rw[ak];exact hZ ⟨(Chg.refl wr []).alloc _,Zh,Ac.new _ _ _⟩
   have ar:Hid (Chg M w2 []):=by rw[ak];exact aq
   clear ak aq;obtain⟨F,ba⟩:=Ue wr;subst ba;go_loopw [27,6] (fun am v6 wq=>∃j:Nat,j<=m/\am= nI nX j/\gW M o.steps j v6 wq) (fun am _ _=>m-(intOf am).toNat)
   case atStart=>exact⟨0,Zj,rfl,gW.start aw.o (by have:=C.o.2.1;omega) ar.o⟩
   case round=>
    obtain⟨j,hj,rfl,aG⟩:=hrel;have f:=hZ aG;clear aG aw ar H lx fx x0 x1 x2 x3;by_cases bf:j<m
    .obtain⟨s,B⟩:∃s,o.steps[j]? =nM s:=⟨_,Q9 (by have:=P.o;omega)⟩;obtain⟨sb,bb,rfl,aF⟩:=ay.o.base Zj ZM;obtain⟨sk,ai,aR⟩:=Az.get a4.o j s B;obtain⟨ka,kc,rfl,_⟩:=ai.form;have S:Chg w wr []:=(az.o.trans C.o.1).trans f.o.chg;have a:∀q v,(AI s (nS ka s.keys.length kc))[q]? =nM v->wr.cell? ⟨sb,bb+j*6+q,nN⟩=nM v:=fun q v L=>S.keeps (by rw[Nat.add_assoc];exact aF _ v (aR q v L));have d0:=a 0 _ rfl;have d1:=a 1 _ rfl;have d2:=a 2 _ rfl;have d3:=a 3 _ rfl;have d4:=a 4 _ rfl;have d5:=a 5 _ rfl;rw[Nat.add_zero]at d0;have aN:s.keys.length<=4294967296:=by have:=(a1.o.steps s (Qi B)).keys;omega
     have an:=UD (∀N,Chg wr N []->Cl prog 22 #[nS ka s.keys.length kc] N (Dm N 9 (Ad s.keys))) fun N hy=>by
      have h1:=(ai.kept (S.trans hy)).rowLt;exact DL _ _ _ N h1 (Gu s.keys) (by rw[Ao];exact aN)
     obtain⟨ys,G,hL,hO,hG,D⟩:=f.o.ex;obtain⟨l,p,rfl,_⟩:=hL.form;have bd:=hZ S;have a3:=hZ B;have HL:=hZ hL;have a2:=hZ hO;have aZ:=hZ hG;have a6:=hZ D;have aV:=hZ f.o.chg;obtain⟨k,ag⟩:=Ue s.keys.length;have Y:=hZ ag;rw[<-ag]at an d5;clear B aF ai aR a aN hL hO hG D f S ag
     go_wp2_with(first
      |(go_at_call 22;refine(an.o _ z1t).mono ?_;rintro e E ⟨v5,rfl,T,k2,k3⟩;obtain⟨u,y,rfl,_⟩:=T.form;rw[Ao,<-Y.o]at T k2|-;have K1:=hZ T;have K2:=UD (∀g,(Vl.slice u k y).ownBlock=nM g->wr.heap.size+1<=g) (fun g D=>by have:=k2 g D;simpa using this);have aU:=hZ ((Ac.new wr [nI nX s.sort,.bool s.flag,nI .u64 s.bits,nG s.text,nI nX s.count,nS ka k kc] 55).kept k3);have H5:=UD (Chg wr E []) (ct cR k3);obtain⟨ly,fy,y0,y1,y2,y3,y4,y5⟩:=Ac.cells6 aU.o;clear T k2 k3)
      |(at_builtin;go_loud(refine Bg rfl _ _ _ rfl 55 Iq 6 72 ZM underlying22 DM rfl (nS l j p) j ys ZN (by exact HL.o.kept (bs:=[]) ((H5.o.setCell _ _ Zh).alloc _) Zh) E.heap.size (AI s (nS u k y)) ZN rfl (by intro j v L;exact((BD _ _ (AI s (nS u k y)) 55 _ rfl Zh).cell j).trans L) (C0 _ _ _ _) Zj Zj ?_);intro g a7 w7 J I K;have Z:=hZ J;have X:=hZ I;have aa:=hZ K;clear J I K))
     go_roundw
     case rel=>
      have h6:Chg wr ((E.setCell ⟨wr.heap.size,5,nN⟩ (nS u k y)).alloc (nC (AI s (nS u k y)).toArray 55)) []:=(H5.o.setCell _ _ Zh).alloc _;have a8:Chg E ((E.setCell ⟨wr.heap.size,5,nN⟩ (nS u k y)).alloc (nC (AI s (nS u k y)).toArray 55)) [wr.heap.size]:=((Chg.refl E _).setCell _ _ Zh).alloc _;have aM:=K1.o.kept a8 (fun g D t=>by have:=K2.o g D;simp at t;omega);refine⟨j+1,Zj,by go_num,gW.next aV.o HL.o a2.o aZ.o a6.o a3.o h6 (by rw[<-Y.o];have:=aM.toK;rwa[Ao,<-Y.o]at this) (show SE (fun b=>(Vl.slice u k y).ownBlock=nM b) _ from fun b o n c e=>by rw[e];rfl) (fun b d=>⟨by have:=K2.o b d;omega,aM.lt d⟩) cR Z.o X.o (aa.o.imp id (fun h=>by rw[h];simp))⟩
     case measure=>simp[intOf];omega
    .obtain rfl:j=m:=by omega
     obtain⟨ys,W,ae,aH,aI,aJ⟩:=f.o.done P.o;obtain⟨_,_,r,_⟩:=f.o.ex;obtain⟨l,p,rfl,_⟩:=r.form;clear r;have H:=hZ (C.o.2.2.kept f.o.chg);obtain⟨lx,fx,x0,x1,x2,x3⟩:=Ac.cells4 H.o;have aO:Chg F wr []:=C.o.1.trans f.o.chg;have ax:=hZ aO;have aA:=hZ C.o.2.1;rw[<-P.o]at ae;have aW:=hZ ae;have ao:=hZ aH;have aX:=hZ aI;have O:=hZ aJ;clear ae aH aI aJ aO C f;have bh:n<=4294967296:=hn
     go_wp2_with(first
      |(refine uN ((H.o.set 3 _).eq rfl) ?_)
      |(at_builtin;go_loud(refine Bg rfl _ _ _ rfl 44 (nA #[nI nX 0,nG ⟨#[]⟩,nG ⟨#[]⟩,nS nN 0 0]) 4 64 ZM underlying23 JK rfl (nS qa i qc) i bc ZN (by exact au.o.kept (bs:=[]) ((ax.o.setCell _ _ Zh).alloc _) Zh) wr.heap.size (BJ o (nS l j p)) ZN rfl (by intro j' v L;exact((BD _ _ (BJ o (nS l j p)) 44 _ rfl Zh).cell j').trans L) (Dx _ _ _ _) Zj Zj ?_);intro g a7 w7 J I K;have Z:=hZ J;have X:=hZ I;have aa:=hZ K;clear J I K))
     go_roundw
     case rel=>
      have a9:∀b,W b->b≠F.heap.size:=fun b d=>by have:=(O.o b d).1;have:=aA.o;omega
      have h6:Chg F ((wr.setCell ⟨F.heap.size,3,nN⟩ (nS l j p)).alloc (nC (BJ o (nS l j p)).toArray 44)) []:=(ax.o.setCell _ _ Zh).alloc _;have k6:i3 W wr ((wr.setCell ⟨F.heap.size,3,nN⟩ (nS l j p)).alloc (nC (BJ o (nS l j p)).toArray 44)):=(show Chg wr _ [F.heap.size]from((Chg.refl wr _).setCell _ _ Zh).alloc _).keepsB (fun b d=>(O.o b d).2) (fun b t d=>by simp at t;exact a9 b d t);exact⟨i+1,Zj,by go_num,fT.next az.o au.o a0.o aY.o a5.o HO.o h6 (by rw[<-P.o];exact aW.o.keptF ao.o k6) ao.o (Cr.kept k6 (fun _ h=>h) aX.o) (fun b d=>⟨by have:=(O.o b d).1;have:=aA.o;omega,Q6 (O.o b d).2 Zh⟩) cR Z.o X.o aa.o⟩
     case measure=>simp[intOf];omega
  .obtain rfl:i=n:=by omega
   obtain⟨bi,W,aE⟩:=A.o.done Q.o;obtain⟨_,_,r,_⟩:=A.o.ex;obtain⟨l,p,rfl,_⟩:=r.form;have aT:=hZ aE;clear aE r;go_wp2_with fail;go_ret;exact⟨_,_,_,rfl,aT.o,A.o.chg⟩
end
section
open _root_.Go.Proofs.Tryz
open Go Go.RowKit Go.ChangeShapes Go.WideShapes Tree
variable{a:Addr}{A j:Bool}{cs:List Vl}{b base n:Nat}{s:Nat->Bool}{H:Type}{w:Wl}
theorem F4:prog.cellsOf 9=1:=Yb
theorem LV:prog.cellsOf 3=1:=Yb
theorem Qx:prog.cellsOf 53=1:=Yb
theorem Qv:prog.cellsOf 4=1:=Yb
theorem SS:prog.cellsOf 25=1:=Yb
theorem Qy:prog.cellsOf 27=1:=Yb
theorem KU:prog.cellsOf 55=6:=Yb
theorem OY:prog.cellsOf 22=1:=Yb
theorem NU:prog.cellsOf 44=4:=Yb
theorem Qw(h:w.cells? base a n=some cs):cs.length=n/\∀i v,cs[i]? =some v->w.cell? (a.add i)=some v:=by
 unfold World.cells? at h;split at h
 .have b:=mapM_some_length h;rw[List.length_range]at b;refine⟨b,fun i v c=> ?_⟩;have hi:i<n:=by rw[<-b];exact(Qc.1 c).1
  rw[mapM_some_get h i i (by simp[hi])];exact c
 .cases h
theorem Wi(a:Addr)(i j:Nat)(h:a.spot=none):(a.add i).add j=⟨a.block,a.off+(i+j),none⟩:=by
 obtain⟨b,o,s⟩:=a;subst h;unfold Addr.add;by_cases hi:i=0<;>by_cases c:j=0<;>simp_all[Nat.add_assoc]
theorem YS{v:Vl}(h:w.cell? a=some v):a.spot=none:=by
 unfold World.cell? at h;split at h
 .split at h
  .cases h
  .rename_i b;cases c:a.spot with
   |none=>rfl
   |some x=>rw[c]at b;exact absurd rfl b
 .cases h
theorem Px{sz:Nat}{R:Nat->List Vl->Prop}(m:0<sz)(h:∀i,i<n->∃cs,w.cells? base (a.add (i*sz)) sz=some cs/\R i cs):
  ∀i,i<n->∃cs,R i cs/\cs.length=sz/\∀j v,cs[j]? =some v->a=⟨a.block,a.off,none⟩/\w.cell? ⟨a.block,a.off+(i*sz+j),none⟩=some v:=by
 intro i hi
 have f:a.spot=none:=by
  obtain⟨cs,c,_⟩:=h 0 Zj;obtain⟨e,d⟩:=Qw c;have:=d 0 _ (Q9 Zj);have g:=YS this;simpa[Addr.add]using g
 obtain⟨cs,c,k⟩:=h i hi;obtain⟨e,d⟩:=Qw c;refine⟨cs,k,e,fun j v l=>⟨by obtain⟨b,o,s⟩:=a;subst f;rfl, ?_⟩⟩;rw[<-Wi a _ _ f];exact d j v l
theorem ZE(h:cs.length=6):∃g c1 i c3 c4 c5,cs=[g,c1,i,c3,c4,c5]:=by
 match cs,h with
 |[a,b,c,d,e,f],_=>exact⟨a,b,c,d,e,f,rfl⟩
theorem bH(d:DataW H):1<=Rows.uptoBulk d:=by
 cases d with
 |lit l=>cases l<;>simp[Rows.uptoBulk]
 |_=>simp[Rows.uptoBulk]
theorem Kg{d:DataW H}:∀{l:List (DataW H)},d∈l->Rows.uptoBulk d<=Rows.uptoBulkAll l
 |x::r,h=>by
  simp only[Rows.uptoBulkAll];rcases Qh.1 h with rfl|h
  .omega
  .have:=Kg h;omega
theorem Hw:∀(l:List (DataW H)),l.length<=Rows.uptoBulkAll l
 |[]=>by simp[Rows.uptoBulkAll]
 |x::r=>by have:=bH x;have:=Hw r;simp only[Rows.uptoBulkAll,Qj];omega
theorem FG(b:BY):Rows.uptoBulk (DataW.lit (H:=H) (.string b.data.toList))=b.size+1:=by
 simp[Rows.uptoBulk]
theorem NT{H:Type}:∀(ks:List BY),Rows.uptoBulkAll (ks.map fun k=>DataW.lit (H:=H) (.string k.data.toList))=Ay ks+ks.length
 |[]=>rfl
 |k::ks=>by
  have:=NT (H:=H) ks;simp only[List.map_cons,Rows.uptoBulkAll,FG,this,Ay,List.sum_cons,Qj];omega
def Sm{H:Type}(d:DataW H):Prop:=Rows.uptoBulk d<=1048576
theorem Vg{enc:Ti×Vl->H}{z:Nat}{x:DataW H×List MemPlace}(h:DataW.trod enc prog w b s A z 27 cs=some x)(m:Sm x.1):
  ∃(a:Option Addr) (c:Nat) (ks:List BY),cs=[.slice a ks.length c]/\As w (.slice a ks.length c) 1 ks.length (Ad ks)/\ks.length<=1048576/\Ay ks<=1048576:=by
 rcases DataW.trod_slice underlying27 h with⟨rfl,_⟩|⟨a,o,cap,g,rest,n,_,rfl,rfl,_,B,_,J,p,_,_⟩
 .exact⟨none,0,[],rfl,⟨none,0,rfl,Q8 _,rfl,fun i v d=>by simp[Ad]at d⟩,Zh,by simp[Ay]⟩
 .rw[F4]at p;unfold Sm at m;simp only[Rows.uptoBulk]at m
  have D:=Px (w:=w) (base:=b) (sz:=1) (n:=o) (a:=a) (R:=fun i cs=>∃q:BY,cs=[.string q]/\(g[i]?).map (·.1)=some (.lit (.string q.data.toList))) ZM (fun i hi=>by
   have e:=p i hi;obtain⟨y,r⟩:∃y,g[i]? =some y:=⟨_,Q9 Zj⟩;rw[r]at e;simp only[Option.bind_eq_some_iff]at e;obtain⟨cs,f,E⟩:=e;obtain⟨q,rfl,rfl,_⟩:=DataW.trod_string underlying9 E
   exact⟨_,f,q,rfl,by rw[r];rfl⟩)
  have G:∀k,k<=o->∃ks:List BY,ks.length=k/\(g.map (·.1)).take k=ks.map (fun q=>DataW.lit (.string q.data.toList))/\∀i v,(Ad ks)[i]? =some v->a=⟨a.block,a.off,none⟩/\w.cell? ⟨a.block,a.off+i,none⟩=some v:=by
   intro k;induction k with
   |zero=>exact fun _=>⟨[],rfl,rfl,(fun i v d=>by simp[Ad]at d)⟩
   |succ k F=>
    intro K;obtain⟨ks,e,j,l⟩:=F Zj;obtain⟨cs,⟨q,rfl,C⟩,_,f⟩:=D k Zj;refine⟨ks++[q],by simp[e], ?_,fun i v d=> ?_⟩
    .rw[List.take_add_one,j,List.getElem?_map,C,List.map_append];rfl
    .unfold Ad at d;rw[List.map_append]at d;by_cases hi:i<(ks.map Vl.string).length
     .rw[List.getElem?_append_left hi]at d;exact l i v d
     .rw[List.getElem?_append_right Zj]at d;rw[List.length_map,e]at hi d;have I:i-k<1:=by have:=(Qc.1 d).1;simpa using this
      have f:=f (i-k) v d;rwa[show k*1+(i-k)=i from by omega]at f
  obtain⟨ks,rfl,j,l⟩:=G o (Q8 _);have L:(g.map (·.1)).length=ks.length:=by rw[List.length_map];omega
  rw[Qn Zj]at j;rw[j,NT]at m;refine⟨some a,cap,ks,rfl,⟨some a,cap,rfl,B,by simp[Ad],fun i v d=> ?_⟩,Zj,Zj⟩;obtain⟨t,u⟩:=l i v d;exact⟨a.block,a.off,by rw[<-t],u⟩
theorem PB{ks:List BY}{k:BY}(h:k∈ks):k.size<=Ay ks:=by
 unfold Ay;induction ks with
 |nil=>cases h
 |cons x r a=>
  rw[List.map_cons,List.sum_cons];rcases Qh.1 h with rfl|h
  .omega
  .have:=a h;omega
theorem z1r{p:Prop}(h:p:=by have:=congrArg (fun l=>l[0]?) h;simpa[List.getElem?_take,List.getElem?_drop]using this):p:=h
theorem Vf{enc:Ti×Vl->H}{R:Nat}{x:DataW H×List MemPlace}(h:DataW.trod enc prog w b s j R 55 cs=some x)(L:Sm x.1):
  ∃(t:Ap) (sk:Vl),cs=AI t sk/\As w sk 1 t.keys.length (Ad t.keys)/\Di t:=by
 obtain⟨xs,m,_,rfl,K,ad,n⟩:=DataW.trod_struct underlying55 h;rw[KU]at K;have ae:xs.length=6:=ad
 obtain⟨y,z,A,q,B,C,rfl⟩:∃y z A q B C,xs=[y,z,A,q,B,C]:=by
  match xs,ae with
  |[a,b,c,d,e,f],_=>exact⟨a,b,c,d,e,f,rfl⟩
 have D:DataW.trod enc prog w b s j m 53 ((cs.drop 0).take (prog.cellsOf 53))=some y:=n 0 _ rfl;have E:DataW.trod enc prog w b s j m 4 ((cs.drop 1).take (prog.cellsOf 4))=some z:=n 1 _ rfl;have F:DataW.trod enc prog w b s j m 25 ((cs.drop 2).take (prog.cellsOf 25))=some A:=n 2 _ rfl;have G:DataW.trod enc prog w b s j m 9 ((cs.drop 3).take (prog.cellsOf 9))=some q:=n 3 _ rfl;have I:DataW.trod enc prog w b s j m 3 ((cs.drop 4).take (prog.cellsOf 3))=some B:=n 4 _ rfl;have J:DataW.trod enc prog w b s j m 27 ((cs.drop 5).take (prog.cellsOf 27))=some C:=n 5 _ rfl;rw[Qx]at D;rw[Qv]at E;rw[SS]at F;rw[F4]at G;rw[LV]at I;rw[Qy]at J;unfold Sm at L;simp only[List.map_cons,List.map_nil,Rows.uptoBulk,Rows.uptoBulkAll]at L;obtain⟨so,Y,_,_⟩:=DataW.trod_int underlying53 D;obtain⟨Q,r,_⟩:=DataW.trod_bool underlying4 E;obtain⟨p,u,_,aa⟩:=DataW.trod_int underlying25 F;obtain⟨o,Z,P,_⟩:=DataW.trod_string underlying9 G;obtain⟨O,h4,_,ab⟩:=DataW.trod_int underlying3 I;obtain⟨a,c,ks,h5,hR,af,ag⟩:=Vg J (show Rows.uptoBulk _<=_ by omega);have hb:=bounds_u64 aa;have hc:=bounds_i64 ab;have ht:o.size<=1048576:=by have r:=FG (H:=H) o;have u:Rows.uptoBulk q.1=o.size+1:=(by rw[P];exact r);omega
 refine⟨⟨so,Q,p.toNat,o,O,ks⟩,.slice a ks.length c, ?_,hR,⟨by show p.toNat<_;omega,by show o.size<=_;omega,by show ks.length<=_;omega,fun k hk=>by have u:k.size<=Ay ks:=PB hk;omega,by show Ay ks<=_;omega,hc⟩⟩
 have g:∀i v,(cs.drop i).take 1=[v]->cs[i]? =some v:=fun i v h=>by
  exact z1r
 have S:=g 0 _ Y;have T:=g 1 _ r;have U:=g 2 _ u;have V:=g 3 _ Z;have W:=g 4 _ h4;have X:=g 5 _ h5;obtain⟨M,c1,N,c3,c4,c5,rfl⟩:=ZE K;obtain rfl:M=_:=Q5 S;obtain rfl:c1=_:=Q5 T;obtain rfl:N=_:=Q5 U;obtain rfl:c3=_:=Q5 V;obtain rfl:c4=_:=Q5 W;obtain rfl:c5=_:=Q5 X;show _=[_,_,_,_,_,_]
 rw[show(((p.toNat:Nat):Int))=p from by omega]
theorem MA{enc:Ti×Vl->H}{G:Nat}{x:DataW H×List MemPlace}(h:DataW.trod enc prog w b s A G 22 cs=some x)(C:Sm x.1):
  ∃(a:Option Addr) (c:Nat) (l:List Ap) (xs:List Vl),cs=[.slice a l.length c]/\As w (.slice a l.length c) 6 l.length xs/\Az w l xs/\(∀s∈l,Di s)/\l.length<=1048576:=by
 rcases DataW.trod_slice underlying22 h with⟨rfl,_⟩|⟨a,p,cap,q,rest,n,_,rfl,rfl,_,K,_,S,B,_,_⟩
 .exact⟨none,0,[],[],rfl,⟨none,0,rfl,Q8 _,rfl,fun i v e=>by simp at e⟩,by simp[Az],(fun k o=>by cases o),Zh⟩
 .rw[KU]at B;unfold Sm at C;simp only[Rows.uptoBulk]at C;have O:∀d∈q.map (·.1),Sm d:=fun d A=>by have:=Kg A;unfold Sm;omega
  have M:=Px (w:=w) (base:=b) (sz:=6) (n:=p) (a:=a) (R:=fun i cs=>∃(t:Ap) (sk:Vl),cs=AI t sk/\As w sk 1 t.keys.length (Ad t.keys)/\Di t) ZM (fun i hi=>by
   have f:=B i hi;obtain⟨y,D⟩:∃y,q[i]? =some y:=⟨_,Q9 Zj⟩;rw[D]at f;simp only[Option.bind_eq_some_iff]at f;obtain⟨cs,g,N⟩:=f
   exact⟨_,g,Vf N (O y.1 (List.mem_map.2 ⟨y,Qi D,rfl⟩))⟩)
  have L:p<=1048576:=by have:=Hw (q.map (·.1));rw[List.length_map]at this;omega
  have Q:∀k,k<=p->∃(l:List Ap) (xs:List Vl),l.length=k/\xs.length=k*6/\Az w l xs/\(∀s∈l,Di s)/\∀i v,xs[i]? =some v->a=⟨a.block,a.off,none⟩/\w.cell? ⟨a.block,a.off+i,none⟩=some v:=by
   intro k;induction k with
   |zero=>exact fun _=>⟨[],[],rfl,rfl,by simp[Az],(fun k o=>by cases o),(fun i v e=>by simp at e)⟩
   |succ k P=>
    intro o;obtain⟨l,xs,f,m,r,u,z⟩:=P Zj;obtain⟨cs,⟨t,sk,rfl,I,J⟩,_,g⟩:=M k Zj;refine⟨l++[t],xs++AI t sk,by simp[f],by rw[Qk,m];show _+6=_;omega,r.append ⟨sk,[],Zh,I,by simp[Az]⟩,fun s j=> ?_,fun i v e=> ?_⟩
    .rcases Qf.1 j with j|j
     .exact u s j
     .rw[List.mem_singleton.1 j];exact J
    .by_cases hi:i<xs.length
     .rw[List.getElem?_append_left hi]at e;exact z i v e
     .rw[List.getElem?_append_right Zj,m]at e;have g:=g (i-k*6) v e;rwa[show k*6+(i-k*6)=i from by omega]at g
  obtain⟨l,xs,rfl,m,r,u,z⟩:=Q p (Q8 _);refine⟨some a,cap,l,xs,rfl,⟨some a,cap,rfl,K,m,fun i v e=> ?_⟩,r,u,L⟩;obtain⟨E,F⟩:=z i v e;exact⟨a.block,a.off,by rw[<-E],F⟩
theorem Yr(h:cs.length=4):∃e c1 f c3,cs=[e,c1,f,c3]:=by
 match cs,h with
 |[a,b,c,d],_=>exact⟨a,b,c,d,rfl⟩
def gH(t:Bq):Prop:=T7 t/\t.path.size<=1048576/\t.frm.size<=1048576
theorem YD{enc:Ti×Vl->H}{I:Nat}{x:DataW H×List MemPlace}(h:DataW.trod enc prog w b s j I 44 cs=some x)(C:Sm x.1):
  ∃(t:Bq) (sv:Vl) (ys:List Vl),cs=BJ t sv/\As w sv 6 t.steps.length ys/\Az w t.steps ys/\gH t:=by
 obtain⟨xs,m,_,rfl,B,U,k⟩:=DataW.trod_struct underlying44 h;rw[NU]at B;have V:xs.length=4:=U
 obtain⟨q,n,o,r,rfl⟩:∃q n o r,xs=[q,n,o,r]:=by
  match xs,V with
  |[a,b,c,d],_=>exact⟨a,b,c,d,rfl⟩
 have u:DataW.trod enc prog w b s j m 3 ((cs.drop 0).take (prog.cellsOf 3))=some q:=k 0 _ rfl;have y:DataW.trod enc prog w b s j m 9 ((cs.drop 1).take (prog.cellsOf 9))=some n:=k 1 _ rfl;have z:DataW.trod enc prog w b s j m 9 ((cs.drop 2).take (prog.cellsOf 9))=some o:=k 2 _ rfl;have A:DataW.trod enc prog w b s j m 22 ((cs.drop 3).take (prog.cellsOf 22))=some r:=k 3 _ rfl;rw[LV]at u;rw[F4]at y z;rw[OY]at A;unfold Sm at C;simp only[List.map_cons,List.map_nil,Rows.uptoBulk,Rows.uptoBulkAll]at C;obtain⟨W,N,_,_⟩:=DataW.trod_int underlying3 u;obtain⟨pa,f,F,_⟩:=DataW.trod_string underlying9 y;obtain⟨e,p,G,_⟩:=DataW.trod_string underlying9 z;obtain⟨a,c,l,ys,O,Q,R,P,X⟩:=MA A (show Rows.uptoBulk _<=_ by omega);have S:pa.size<=1048576:=by have f:=FG (H:=H) pa;have p:Rows.uptoBulk n.1=pa.size+1:=(by rw[F];exact f);omega
 have T:e.size<=1048576:=by have f:=FG (H:=H) e;have p:Rows.uptoBulk o.1=e.size+1:=(by rw[G];exact f);omega
 refine⟨⟨W,pa,e,l⟩,.slice a l.length c,ys, ?_,Q,R,⟨by show pa.size<=_;omega,by show e.size<=_;omega,P,by show l.length<=_;omega⟩,S,T⟩
 have g:∀i v,(cs.drop i).take 1=[v]->cs[i]? =some v:=fun i v h=>by
  exact z1r
 have J:=g 0 _ N;have K:=g 1 _ f;have L:=g 2 _ p;have M:=g 3 _ O;obtain⟨D,c1,E,c3,rfl⟩:=Yr B;obtain rfl:D=_:=Q5 J;obtain rfl:c1=_:=Q5 K;obtain rfl:E=_:=Q5 L;obtain rfl:c3=_:=Q5 M;rfl
theorem Rt{enc:Ti×Vl->H}{B:Bool}{J:Nat}{x:DataW H×List MemPlace}(h:DataW.trod enc prog w b s B J 23 cs=some x)(E:Sm x.1):
  ∃(a:Option Addr) (c:Nat) (l:List Bq) (xs:List Vl),cs=[.slice a l.length c]/\UG w (.slice a l.length c) l xs/\∀o∈l,o.path.size<=1048576/\o.frm.size<=1048576:=by
 rcases DataW.trod_slice underlying23 h with⟨rfl,_⟩|⟨a,r,cap,u,rest,n,_,rfl,rfl,_,N,_,U,D,_,_⟩
 .exact⟨none,0,[],[],rfl,⟨⟨none,0,rfl,Q8 _,rfl,fun i v e=>by simp at e⟩,rfl,(fun k f=>by cases f),Zh⟩,fun k f=>by cases f⟩
 .rw[NU]at D;unfold Sm at E;simp only[Rows.uptoBulk]at E;have Q:∀d∈u.map (·.1),Sm d:=fun d B=>by have:=Kg B;unfold Sm;omega
  have O:=Px (w:=w) (base:=b) (sz:=4) (n:=r) (a:=a) (R:=fun i cs=>∃(t:Bq) (sv:Vl) (ys:List Vl),cs=BJ t sv/\As w sv 6 t.steps.length ys/\Az w t.steps ys/\gH t) ZM (fun i hi=>by
   have g:=D i hi;obtain⟨y,F⟩:∃y,u[i]? =some y:=⟨_,Q9 Zj⟩;rw[F]at g;simp only[Option.bind_eq_some_iff]at g;obtain⟨cs,j,P⟩:=g
   exact⟨_,j,YD P (Q y.1 (List.mem_map.2 ⟨y,Qi F,rfl⟩))⟩)
  have V:r<=1048576:=by have:=Hw (u.map (·.1));rw[List.length_map]at this;omega
  have T:∀k,k<=r->∃(l:List Bq) (xs:List Vl),l.length=k/\xs.length=k*4/\Cc w l xs/\(∀o∈l,gH o)/\∀i v,xs[i]? =some v->a=⟨a.block,a.off,none⟩/\w.cell? ⟨a.block,a.off+i,none⟩=some v:=by
   intro k;induction k with
   |zero=>exact fun _=>⟨[],[],rfl,rfl,rfl,(fun k f=>by cases f),(fun i v e=>by simp at e)⟩
   |succ k S=>
    intro f;obtain⟨l,xs,g,p,z,q,A⟩:=S Zj;obtain⟨cs,⟨t,sv,ys,rfl,L,M,K⟩,_,j⟩:=O k Zj;refine⟨l++[t],xs++BJ t sv,by simp[g],by rw[Qk,p];show _+4=_;omega,z.append ⟨sv,ys,[],Zh,L,M,rfl⟩,fun s m=> ?_,fun i v e=> ?_⟩
    .rcases Qf.1 m with m|m
     .exact q s m
     .rw[List.mem_singleton.1 m];exact K
    .by_cases hi:i<xs.length
     .rw[List.getElem?_append_left hi]at e;exact A i v e
     .rw[List.getElem?_append_right Zj,p]at e;have j:=j (i-k*4) v e;rwa[show k*4+(i-k*4)=i from by omega]at j
  obtain⟨l,xs,rfl,p,z,q,A⟩:=T r (Q8 _);refine⟨some a,cap,l,xs,rfl,⟨⟨some a,cap,rfl,N,p,fun i v e=> ?_⟩,z,fun o C=>(q o C).1,Zj⟩,fun o C=>(q o C).2⟩;obtain⟨G,I⟩:=A i v e;exact⟨a.block,a.off,by rw[<-G],I⟩
end
end Go.Proofs.YtamgbmcchhmojaaGreatDoor

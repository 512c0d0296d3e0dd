/- Part 20 of the proof of both cards. -/
import Derived.Lib.AppendZeros
import Derived.Test.YtpdnhfkacgdocaaGreatDoorM19
set_option maxRecDepth 100000
set_option maxHeartbeats 32000000
set_option linter.all false
namespace Go.Proofs.YtpdnhfkacgdocaaGreatDoor
open Go renaming Calls->Cl,TypeId->Ti,Value->Vl,World->Wl
open Go.Value renaming agg->nA,iface->nF,int->nI,pointer->nP,slice->nS,string->nG,tuple->nT
open Go.IntKind renaming i64->nX
open Go.Ending renaming returned->nR
open Go.Obj renaming cells->nC
open Option renaming none->nN,some->nM
section
open _root_.Go.Proofs.Tryz
open Go Go.Shelf Go.RowKit Go.Lib Tree Ptr
variable{p:Prop}{w:Wl}
theorem JK:(prog.info? 42).map (fun i=>(i.zero,i.size,i.bytes))=nM (nM (nA #[nI nX 0,nG ⟨#[]⟩,nG ⟨#[]⟩,nS nN 0 0]),4,64):=Yb
theorem Yo{t b:Tr}{o:Bq}{v:List CW}(h:Gz t o= .yes b v):v.length<=2:=by
 unfold Gz at h;split at h
 .cases h
 .unfold Da at h;repeat' split at h
  all_goals first
   |(obtain⟨_,_,rfl,_⟩:=Fd h;simp)
   |(obtain⟨_,rfl,_⟩:=Ib h;simp)
   |(injection h with c a;subst a;simp)
   |cases h
theorem Sa:∀{l:List Bq} {t b:Tr} {u v:List CW} {i:Nat},BR t u i l= .yes b v->v.length<=u.length+2*l.length
 |[],t,b,u,v,i,h=>by simp[BR]at h;rw[h.2];simp
 |o::l,t,b,u,v,i,h=>by
  simp only[BR]at h;cases a:Gz t o with
  |no e=>rw[a]at h;cases h
  |yes c w=>
   rw[a]at h;have:=Sa h;have:=Yo a;simp only[Qk,Qj]at*;omega
theorem Eh.one{F:Nat->Prop}{l:List Bq}{xs:List Vl}(h:Eh w F l xs):∀u∈xs,u.oneCell'=true:=Cc.one h.toIn
theorem AK.maxLe{sv:Vl}{e:Ti}{vs:List Vl}(h:AK w sv e vs):vs.length<=9223372036854775807:=by
 rcases h.2 with⟨d,f⟩|⟨g,b,c,j,_,_,i,a,_⟩
 .omega
 .unfold maxLen at a;omega
def Jz(r:Zi)(w:Wl)(e:Ending)(w':Wl):Prop:=match r with
 | .no k i=>e= nR (nT #[nS nN 0 0,Hk k i])/\Chg w w' []
 | .yes _ u=>if 65536<u.length then e= nR (nT #[nS nN 0 0,nF 74 (nI nX 3)])/\Chg w w' []else
  ∃a xs G,e= nR (nT #[a,.nilIface])/\EW w w' (u.map CW.toI) a xs G/\Chg w w' []
theorem z0w(h:p:=by have:=T.o;have:=R.o;omega):p:=h
theorem z0z(h:p:=by simpa using c):p:=h
theorem Xn(F:Nat->Prop)(tb:Nat)(t:Tr)(E:List Bq)(Z:Vl)(xs:List Vl)(w:Wl)(h:Yc w F tb t E Z xs):
  Cl prog 14 #[nP (nM ⟨tb,0,nN⟩),Z] w (Jz (BR t [] 0 E) w):=by
 have m:=Xs t F tb E Z xs w h.laid h.big h.tree h.lt h.fine h.row h.at_ h.small h.many;unfold Fb at m;obtain⟨sa,sc,rfl,_⟩:=h.row.form;have ai:=h.many;obtain⟨nl,X⟩:=Ue E.length;rw[<-X]at m|-;cases C:BR t [] 0 E with
 |no k i=>
  rw[C]at m;have Q:=hZ m;clear m C h X ai;go_enter func14,ntmps14;go_wp2_with((go_at_call 24;refine Q.o.mono ?_;rintro e y ⟨rfl,a⟩;have z:=hZ a;clear a));go_ret2;exact⟨rfl,z.o⟩
 |yes t' u=>
  rw[C]at m;have am:u.length<=131072:=by have:=Sa C;simp at this;omega
  have af:=hZ am;have Q:=hZ m;clear m C h X ai am;go_enter func14,ntmps14;go_wp2_with((go_at_call 24;refine Q.o.mono ?_;rintro e y ⟨⟨W,f,v,uv,bs,vs,G,rfl,x,ah⟩,a⟩;have z:=hZ a;have S:=hZ x;have ad:=hZ ah;obtain⟨ua,uc,rfl,al⟩:=x.row.form;have c3:=x.wat.blk.cell 3;simp only[Qa,Qb]at c3;have lW:=x.wat.blk.lt;have av:=hZ al;have T:=hZ x.grp.length;have aA:=x.row.maxLe;clear a x ah al));obtain⟨n,W⟩:=Ue vs.length;have R:=hZ W;have L:=UD (f.flatten.length=u.length) (by have:=congrArg List.length ad.o;simpa using this);rw[<-W]at c3 aA|-;clear W;go_loopw [25,8] (fun aa v8 wr=>∃(i:Nat) (d:List UF) (q:Option Addr) (cap:Nat),i<=n/\aa= nI nX i/\v8= nS q d.length cap/\Ba wr v8 42 4 d.length (d.flatMap D0)/\Eh y G (f.take i).flatten (d.flatMap D0)/\d.length=(f.take i).flatten.length/\Chg y wr []/\(∀g,v8.ownBlock=nM g->y.heap.size<=g)) (fun aa _ _=>n-(intOf aa).toNat)
  case atStart=>exact⟨0,[],nN,0,Zj,rfl,rfl,Ba.nil _ _ _,rfl,rfl,Chg.refl _ _,fun g c=>by cases c⟩
  case round=>
   obtain⟨i,d,q,cap,hi,rfl,rfl,hL,hF,ag,hc,aj⟩:=hrel;have I:=hZ hL;have HF:=hZ hF;have ab:=hZ ag;have l:=hZ hc;have A:=hZ aj
   have aD:d.length<=131072:=by
    have a:(f.take i).flatten.length<=f.flatten.length:=by
     conv=>rhs;rw[<-List.take_append_drop i f]
     rw[List.flatten_append,Qk];omega
    have:=L.o;have:=af.o;omega
   clear hL hF ag hc aj;by_cases aE:i<n
   .obtain⟨os,N⟩:∃os,f[i]? =nM os:=⟨_,Q9 z0w⟩;obtain⟨sl,ys,P,O,ax,M⟩:=S.o.grp.get i os N;obtain⟨ug,rfl⟩:=av.o (by intro e;rw[e]at P;simp at P);have c4:wr.cell? ⟨ug,i,nN⟩=nM sl:=l.o.keeps (S.o.row.cell rfl i _ P);obtain⟨B,U,rfl⟩:=M.enc;obtain⟨la,lc,rfl,_⟩:=O.form;rw[<-U]at O c4;have au:=hZ (O.kept l.o)
    have aF:B.length<=131072:=by
     have a:os.length<=f.flatten.length:=by
      have:=List.sublist_flatten_of_mem (Qi N);exact this.length_le
     have:=L.o;have:=af.o;omega
    have ao:=hZ M.one;have ap:=hZ M;have an:=hZ U;have aq:=hZ N;clear P O ax M U N;go_wp2_with(refine Fs rfl _ _ 23 rfl 42 _ 4 64 ZM underlying23 JK rfl (nS q d.length cap) d.length (d.flatMap D0) ZN I.o B.length (B.flatMap D0) (nS la B.length lc) ZN au.o ao.o Zj Zj ?_;intro q2 aw w3 p r k3;have J:=hZ p;have s:=hZ r;have K3:=hZ k3;clear p r k3);go_roundw
    case rel=>
     have K:(f.take (i+1)).flatten=(f.take i).flatten++os:=by rw[Cb aq.o,List.flatten_append];simp
     refine⟨i+1,d++B,q2,aw,Zj,by go_num,by rw[Qk], ?_, ?_, ?_, ?_, ?_⟩
     .rw[List.flatMap_append,Qk];exact J.o
     .rw[K,List.flatMap_append];exact HF.o.append ap.o
     .rw[K,Qk,Qk,ab.o,an.o]
     .exact l.o.fresh s.o fun g c=>A.o g z0z
     .intro g c;rcases K3.o g c with h|h
      .exact A.o g h
      .have:=l.o.size;omega
    case measure=>simp[intOf];omega
   .obtain rfl:i=n:=by omega
    have V:d.length=u.length:=by
     have a:=ab.o;rw[Qn z0w]at a;rw[a,L.o]
    have ak:Eh y G (u.map CW.toI) (d.reverse.flatMap D0):=by
     have a:=HF.o;rw[Qn z0w]at a;rw[<-ad.o];exact PU (by rw[L.o];exact V) a
    have ar:=hZ ak;have ae:=hZ (YO d _ wr I.o Zj);have H:=hZ V;clear ak V;by_cases aC:(65536:Int)<(d.length:Int)
    .go_wp2_with((go_at_call 28;refine ae.o.mono ?_;rintro e w5 ⟨rfl,p,r⟩;have J:=hZ p;have s:=hZ r;clear p r));go_ret2;have Y:65536<u.length:=by have:=H.o;omega
     show Jz (.yes t' u) w _ _
     unfold Jz;dsimp only;rw[Qr Y];exact⟨rfl,(z.o.trans l.o).fresh s.o fun g c=>by have:=A.o g z0z;have:=z.o.size;omega⟩
    .go_wp2_with((go_at_call 28;refine ae.o.mono ?_;rintro e w5 ⟨rfl,p,r⟩;have J:=hZ p;have s:=hZ r;clear p r));go_ret2;have Y:¬65536<u.length:=by have:=H.o;omega
     show Jz (.yes t' u) w _ _
     unfold Jz;dsimp only;rw[Qs Y];have hG:∀b,G b->w.heap.size<=b/\b<y.heap.size:=S.o.gnew;have hk:BZ G y w5:=(l.o.fresh s.o fun g c=>A.o g z0z).keepsF (fun b j=>(hG b j).2);have aG:=z.o.size;have aH:=l.o.size;have aI:=s.o.size;refine⟨_,d.reverse.flatMap D0,fun b=>G b\/(Vl.slice q d.length cap).ownBlock=nM b,rfl,⟨?_,fun b o n' c' e=> ?_,ar.o.kept hk fun b j=> .inl j,fun b j=> ?_⟩,(z.o.trans l.o).fresh s.o fun g c=>by have:=A.o g z0z;omega⟩
     .have:=J.o;rw[H.o]at this;rw[List.length_map,H.o];exact this
     .injection e with K e2 e3
      subst K;right
      rcases I.o.2 with⟨a,_⟩|⟨g,cp,aB,D,_⟩
      .injection a with a;cases a
      .injection D with D
       injection D with D
       injection D with ay az
       subst ay;subst az;rfl
     .rcases j with j|j
      .have:=hG b j;omega
      .have a:=A.o b j;have h2:=I.o.lt j;omega
end
section
open Go Go.Shelf Go.RowKit Go.Lib Tree Ptr
variable{os:List Bq}{sv:Vl}{w w0:Wl}
structure fT(w0:Wl)(os:List Bq)(i:Nat)(sv:Vl)(w:Wl):Prop where
 ex:∃xs G,Ba w sv 42 4 i xs/\Eh w G (os.take i) xs/\(∀b,G b->w0.heap.size<=b/\b<w.heap.size)/\∀g,sv.ownBlock=nM g->w0.heap.size<=g/\¬G g
 chg:Chg w0 w []
theorem fT.next{wr c t k:Wl}{i g cap:Nat}{o:Bq}{p:Vl}{xs ys:List Vl}{G d:Nat->Prop}(v:Chg w0 wr [])(C:Ba wr sv 42 4 i xs)(D:Eh wr G (os.take i) xs)(r:∀b,G b->w0.heap.size<=b/\b<wr.heap.size)(n:∀g,sv.ownBlock=nM g->w0.heap.size<=g/\¬G g)(I:os[i]? =nM o)(q:Chg wr c [])(E:As c p 6 o.steps.length ys)(u:SE d p)(F:Cr c d o.steps ys)(f:∀b,d b->wr.heap.size<=b/\b<c.heap.size)(l:Chg c t [])(B:Ba k (nS (nM ⟨g,0,nN⟩) (i+1) cap) 42 4 (i+1) (xs++BJ o p))(m:Chg t k sv.ownBlock.toList)(H:sv.ownBlock=nM g\/g=t.heap.size):fT w0 os (i+1) (nS (nM ⟨g,0,nN⟩) (i+1) cap) k:=by
 have L:=q.size;have M:=l.size;have N:=m.size;have K:=v.size;have w:∀y,sv.ownBlock=nM y->y<wr.heap.size:=fun y j=>C.lt j;have J:BZ G wr k:=((q.trans l).none sv.ownBlock.toList|>.trans m).keepsF (fun b a=>(r b a).2) (fun b s a=>(n b (by simpa using s)).2 a);have x:BZ d c k:=((l.none sv.ownBlock.toList).trans m).keepsF (fun b a=>(f b a).2) (fun b s a=>by have z:=w b (by simpa using s);have A:=(f b a).1;omega);refine⟨⟨_,fun b=>G b\/d b,B, ?_,fun b a=> ?_,fun y j=> ?_⟩,((v.trans q).trans l).fresh m (fun y j=>(n y (by simpa using j)).1)⟩
 .rw[Cb I];refine(Eh.kept J (fun _ h=> .inl h) D).append ⟨p,ys,[],by simp,E.keptF u x,u.mono (fun _ h=> .inr h),Cr.kept x (fun _ h=> .inr h) F,rfl⟩
 .rcases a with a|a
  .have:=r b a;omega
  .have:=f b a;omega
 .have e:g=y:=by injection j
  subst e;rcases H with h|h
  .refine⟨(n g h).1,fun a=> ?_⟩;rcases a with a|a
   .exact(n g h).2 a
   .have z:=w g h;have A:=(f g a).1;omega
  .refine⟨by omega,fun a=> ?_⟩;rcases a with a|a
   .have:=r g a;omega
   .have:=f g a;omega
theorem fT.done{n:Nat}(h:fT w0 os n sv w)(j:n=os.length):∃xs G,EW w0 w os sv xs G:=by
 obtain⟨xs,G,f,d,g,i⟩:=h.ex;subst j;rw[List.take_length]at d;refine⟨xs,fun b=>G b\/sv.ownBlock=nM b,f.rowC (by rw[d.length]),fun b o n c e=> ?_,Eh.kept (fun _ _ _=>rfl) (fun _ h=> .inl h) d,fun b a=> ?_⟩
 .rw[e];exact .inr rfl
 .rcases a with a|a
  .exact g b a
  .exact⟨(i b a).1,f.lt a⟩
theorem fT.start{a:Wl}(h:Chg w a []):fT w os 0 (nS nN 0 0) a:=⟨⟨[],fun _=>False,Ba.nil _ _ _,rfl,fun b (c:False)=>c.elim,fun g d=>by cases d⟩,h⟩
theorem fX(k:Nat)(h:k<100000):(⟨(Go.Lib.decDigits k).toArray⟩:BY).size<=11:=by
 have a:=(IX 5 k h).resolve_right (by omega);show(Go.Lib.decDigits k).toArray.size<=11
 rw[List.size_toArray];omega
theorem gd{t u:Tr}(h:Bt t)(a:u∈Ab t):Bt u:=⟨h.good.items u a,C8 h.fits a⟩
end
section
open _root_.Go.Proofs.Tryz
open Go Go.Shelf Go.RowKit Go.Lib Tree Ptr
variable{cs:List Vl}{A B R c j s:Nat}{d:Nat->Bool}{f:Nat->Vl}{V:Nat->Vl->Prop}{P:Program}{p:Prop}{T:Ti}{t:Tr}{y:Vl}{e g w w':Wl}
theorem Wk(a:Bt t){l:List Ap}(f:l=(Ai t).map Aw.toI){b:Vl}{xs:List Vl}(c:As w b 6 l.length xs)(d:Az w l xs):Cl prog 16 #[b] w (F9 t w):=by
 subst f;refine(Fk _ b xs w c d (KI a) ?_).mono fun e w' h=>BO.steps a h;have:=(Ar a.fits).1;rw[List.length_map,BL];omega
theorem PE:∀o∈DH,T7 o:=by
 intro o a;have b:=Lj o a;simp only[DH,Qh,List.not_mem_nil,or_false]at a;rcases a with rfl|rfl
 .exact⟨ZM,ZM,b.steps,ZM⟩
 .exact⟨ZM,ZM,b.steps,ZM⟩
theorem Yp:Bt T1:=⟨⟨WJ,rfl,⟨Xb,Xe,Xc,trivial⟩,trivial⟩,ZM⟩
theorem Yq:Bt (.obj [kC] [.null]):=⟨⟨Rc,rfl,trivial,trivial⟩,ZM⟩
theorem TS:∀o∈Fa.map CW.toI,T7 o:=by
 intro o a;simp only[Fa,List.map_cons,List.map_nil,Qh,List.not_mem_nil,or_false]at a;rcases a with rfl|rfl
 .exact⟨ZM,ZM,KI Yq,ZM⟩
 .exact⟨ZM,ZM,(fun s b=>by cases b),ZM⟩
def Vh(A:Nat):List Vl:=BJ Z5 (nS (nM ⟨A,0,nN⟩) 1 1)++(BJ ak IQ++[])
theorem YE(a:Ac w A (AI (Fv f9) IQ) 55):Cc w DH (Vh A):=
 ⟨nS (nM ⟨A,0,nN⟩) 1 1,AI (Fv f9) IQ++[],_,rfl,As.ofBlk a rfl,Az.cons (As.nil w 1) rfl,⟨IQ,[],_,rfl,As.nil w 6,rfl,rfl⟩⟩
def UA(A:Nat):List Vl:=AI (Fv f1) IQ++(AI (Fv f9) IQ++(AI (Fv f2) IQ++(AI (Un 3) IQ++(AI (Ve [kA]) (nS (nM ⟨A,0,nN⟩) 1 1)++[]))))
theorem Y1(a:Ac w A (Ad [kA]) 9)(b:Ac w B (UA A) 55):DX w (nS (nM ⟨B,0,nN⟩) 5 5) Ln:=
 SL (As.ofBlk b rfl) (Az.cons (As.nil _ 1) (Az.cons (As.nil _ 1) (Az.cons (As.nil _ 1) (Az.cons (As.nil _ 1) (Az.cons (As.ofBlk a rfl) rfl)))))
theorem V3:∀s∈Ln,s.keys.length<=4294967296:=by
 intro s a;simp only[Ln,Qh,List.not_mem_nil,or_false]at a;rcases a with rfl|rfl|rfl|rfl|rfl<;>decide
theorem Ko(w:Wl)(hL:Br w)(af:10<=w.heap.size):Cl prog 6 #[] w (BU true w):=by
 have HL:=hZ hL;have X:=hZ af;clear hL af;go_enter func6,ntmps6
 go_wp2_with(first
  |(go_at_call 17;refine(Tc w).mono ?_;rintro e w1 ⟨g,xs,rfl,B,C,D⟩;have K1:=hZ B;have K2:=hZ C;have K3:=hZ D;clear B C D)
  |(go_at_call 16;refine(Wk LH PA K1.o K2.o).mono ?_;rintro e w2 ⟨F,p,rfl,q1,q2,q3,_⟩;have Q1:=hZ q1;have S:=hZ q2;have I:=hZ (K3.o.trans q3);clear q1 q2 q3)
  |(go_at_call 18;refine(Ph f9 _).mono ?_;rintro e q ⟨rfl,h⟩;have Y:=UD (Chg w2 q []) h;clear h))
 obtain⟨A,J⟩:=Ue q.heap.size;obtain⟨E,y⟩:=Ue ((q.alloc (nC (AI (Fv f9) IQ).toArray 55)).alloc (nC (Vh q.heap.size).toArray 42));have o:Chg w2 E []:=by rw[y];exact(Y.o.alloc _).alloc _
 have u:Ac E A (AI (Fv f9) IQ) 55:=by rw[y,J];exact(Ac.new _ _ _).alloc _
 have v:Ac E (A+1) (Vh A) 42:=by rw[y,J];exact BD _ _ _ _ _ rfl Zh
 have P:Hid (Yc E F p T0 DH (nS (nM ⟨A+1,0,nN⟩) 2 2) (Vh A)):=Lib.hid
  ⟨HL.o.kept (I.o.trans o),Q7 X.o (I.o.trans o).size,Q1.o.kept o S.o,fun b a=>Q6 (S.o b a) o.size,LH,As.ofBlk v rfl,YE u,PE,ZM⟩
 have ad:=hZ (I.o.trans o);change Cl _ _ _ ((q.alloc (nC (AI (Fv f9) IQ).toArray 55)).alloc (nC (Vh q.heap.size).toArray 42)) _;rw[<-y,<-J];clear y J o u v Y Q1 S I K1 K2 K3;refine Calls.mono (IB F p T0 DH _ _ E P.o) ?_;rw[KL];rintro e N ⟨n,M,rfl,f,c,i,_⟩;have R1:=hZ f;have d:=hZ c;have T:=hZ i;clear f c i
 go_wp2_with(first
  |(go_at_call 18;refine(Ph _ _).mono ?_;rintro e l ⟨rfl,h⟩;(first|(have S3:=UD (Chg N l []) (S2.o.trans h))|(have S2:=UD (Chg N l []) (S1.o.trans h))|(have S1:=UD (Chg N l []) h));clear h))
 obtain⟨r,K⟩:=Ue l.heap.size;obtain⟨j,z⟩:=Ue ((l.alloc (nC (Ad [kA]).toArray 9)).alloc (nC (UA l.heap.size).toArray 55));have x:Chg N j []:=by rw[z];exact(S3.o.alloc _).alloc _
 have u:Ac j r (Ad [kA]) 9:=by rw[z,K];exact(Ac.new _ _ _).alloc _
 have v:Ac j (r+1) (UA r) 55:=by rw[z,K];exact BD _ _ _ _ _ rfl Zh
 have ae:=UD (DX j (nS (nM ⟨r+1,0,nN⟩) 5 5) Ln) (Y1 u v);have t:=UD (Yc j F p T0 DH (nS (nM ⟨A+1,0,nN⟩) 2 2) (Vh A)) (P.o.kept (T.o.trans x));have H:=hZ (ad.o.trans (T.o.trans x));have m:=UD (CG j n M T1/\∀b,n b->b<j.heap.size) ⟨R1.o.kept x d.o,fun b a=>Q6 (d.o b a) x.size⟩;change Cl _ _ _ ((l.alloc (nC (Ad [kA]).toArray 9)).alloc (nC (UA l.heap.size).toArray 55)) _;rw[<-z,<-K];clear z K x u v S1 S2 S3 R1 d T P ad;refine Calls.mono (Xn F p T0 DH _ _ j t.o) ?_;rw[KL];rintro e W ak;obtain⟨L,ys,G,rfl,f,c⟩:∃L xs G,e= nR (nT #[L,.nilIface])/\EW j W (Fa.map CW.toI) L xs G/\Chg j W []:=ak;have V:=IB n M T1 (Fa.map CW.toI) L ys W ⟨HL.o.kept (H.o.trans c),Q7 X.o (H.o.trans c).size,m.o.1.kept c m.o.2,fun b a=>Q6 (m.o.2 b a) c.size,Yp,f.row,f.ops.toIn,TS,ZM⟩;obtain⟨U,hU⟩:=T5;rw[hU]at V;have aa:=hZ V;have d:=hZ c;obtain⟨sa,sc,rfl,_⟩:=f.row.form;clear f c V hU;go_wp2_with fail;refine aa.o.mono ?_;rintro e k ⟨O,ag,rfl,f,c,i,_⟩;have ab:=UD (CG k n M T1/\∀b,n b->b<k.heap.size) ⟨m.o.1.kept (d.o.trans i) m.o.2,fun b a=>Q6 (m.o.2 b a) (d.o.trans i).size⟩;have Q:=UD (CG k F p T0/\∀b,F b->b<k.heap.size) ⟨t.o.tree.kept (d.o.trans i) t.o.lt,fun b a=>Q6 (t.o.lt b a) (d.o.trans i).size⟩;have R:=UD (CG k O ag T0/\∀b,O b->b<k.heap.size) ⟨f,c⟩;have aj:=UD (DX k (nS (nM ⟨r+1,0,nN⟩) 5 5) Ln) (ae.o.kept (d.o.trans i));have H6:=hZ (H.o.trans (d.o.trans i));clear f c i aa ae t H m d
 go_wp2_with(first
  |(go_at_call 20;refine(TY n M T1 k ab.o.1 ab.o.2 ZM).mono ?_;rintro e w7 ⟨g7,al,G7,am,rfl,B,C,D,k4,k5⟩;have ai:=UD (DX w7 _ Ln) (PW B C k5 rfl);have Z:=hZ D;clear B C D k4 k5)
  |(go_at_call 19;refine(Rf Ln _ _ w7 ai.o (aj.o.kept Z.o) ZM V3).mono ?_;rintro e w8 ⟨rfl,h8⟩;have s:=hZ (Z.o.trans h8);clear h8)
  |(go_at_call 22;refine(OL O F ag p T0 w8 (R.o.1.kept s.o R.o.2) (Q.o.1.kept s.o Q.o.2) (fun b a=>Q6 (R.o.2 b a) s.o.size) (fun b a=>Q6 (Q.o.2 b a) s.o.size) LH).mono ?_;rintro e w9 ⟨rfl,h9⟩;have ah:=hZ (s.o.trans h9);clear h9))
 go_ret;exact⟨rfl,H6.o.trans ah.o⟩
theorem E0{c:Func}{r p q:Tmp}{b:Ti}(h:c.results=#[.tmp r,.cell p b,.tmp q])(a:Array Vl)(w:Wl)(g:Nat)(T:Ti)(cs:List Vl)(d:TypeDesc)(i:a.getD p undef= nP (nM ⟨g,0,nN⟩))(e:Ac w g cs T)(l:P.underlying b=nM d)(f:(match d with| .struct _| .array _ _=>true|_=>false)=true)(hi:(P.info? b).map (·.size)=nM cs.length):
  (results c a).run P w= .ok (nT #[a.getD r undef,nA cs.toArray,a.getD q undef]) w:=by
 have j:a[p]?.getD undef= nP (nM ⟨g,0,nN⟩):=by simpa using i
 have k:=run_loadVar_row (P:=P) w g T b cs.toArray (0,0) d e l f (by simpa using hi);simp[results,h,j,asAddr,k]
theorem Gj{o:Oper}{a:Act}{Q:Exit->Act->Wl->Prop}{K:Act->Wl->Prop}(b:Ti)(x y:Operand)(f:o.op= .store b x y)(g:Nat)(ds:List Vl)(j:a.eval x= nP (nM ⟨g,0,nN⟩))(k:a.eval y= nA ds.toArray)(T:Ti)(cs:List Vl)(c:Ac w g cs T)(hi:(P.info? b).map (·.size)=nM ds.length)(e:cs.length=ds.length)(d:∀v∈ds,v.oneCell'=true)(h:∀w',w'.heap.size=w.heap.size->Ac w' g ds T->Chg w w' [g]->K (a.put o.dst undef) w'):Oper.wp P o a w K Q:=
 wp_store_row b x y f g ds.toArray j k T cs.toArray c (by simpa using hi) (by simpa using e) (Array.all_eq_true_iff_forall_mem.2 fun v i=>d v (by simpa using i))
  (h _ Zh (c.row ds) ((Chg.refl _ _).setRow _ _ Zh))
def ZT(r:Option Tr)(w:Wl)(e:Ending)(w':Wl):Prop:=(match r with
 |some t=>∃(F a:Nat->Prop) (cs:List Vl) (c:Nat),e= nR (nT #[nP (nM ⟨c,0,nN⟩),nA cs.toArray,.bool true])/\AL w' F t cs/\(∀b,F b->w.heap.size<=b/\b<w'.heap.size)/\CG w' a c t/\(∀b,a b->w.heap.size<=b/\b<w'.heap.size)/\Bt t
 |none=>e= nR (nT #[nP nN,nA zV.toArray,.bool false]))/\Chg w w' []
theorem E7{F:Nat->Prop}(h:AL w F t cs):(∀u∈cs,u.oneCell'=true)/\cs.length=6:=by
 obtain⟨c,d,a,b,ys,rfl,_⟩:=h.uni;exact⟨Mz _ _ _ _ _ _ _ _ _ _,rfl⟩
theorem Ya:∀u∈zV,u.oneCell'=true:=Mz 0 false 0 ⟨#[]⟩ nN nN 0 0 0 0
structure KR(w4:Wl)(R B:Nat)(cs:List Vl)(T:Ti)(s:Nat)(V:Nat->Vl->Prop)(d:Nat->Bool)(f:Nat->Vl)(w:Wl):Prop where
 chg:Chg w4 w [R]
 src:Ac w B cs T
 ne:B≠R
 old:∃ds,Ac w R ds T/\ds.length=cs.length
 dst:d s=true->Ac w R cs T
 vals:∀j,d j=true->V j (f j)
theorem KR.put{b:Wl}(h:KR b R B cs T s V d f w)(c:j≠s)(g:V j y):KR b R B cs T s V (BA d j) (Eb f j y) w:=
 ⟨h.chg,h.src,h.ne,h.old,by rw[An d (Ne.symm c)];exact h.dst,fun k a=>by
  by_cases e:k=j
  .subst e;rw[Bf];exact g
  .rw[AA f y e];rw[An d e]at a;exact h.vals k a⟩
theorem KR.stored(h:KR g R B cs T s V d f w)(i:V s undef)(a:Ac w' R cs T)(b:Chg w w' [R]):KR g R B cs T s V (BA d s) (Eb f s undef) w':=
 ⟨h.chg.trans b,h.src.kept b (by simpa using h.ne),h.ne,⟨cs,a,rfl⟩,fun _=>a,fun k c=>by
  by_cases e:k=s
  .subst e;rw[Bf];exact i
  .rw[AA f _ e];rw[An d e]at c;exact h.vals k c⟩
def aj(cs:List Vl)(j:Nat)(y:Vl):Prop:=match j with
 |0=>y= nA cs.toArray
 |1=>y= nP nN
 |3=>y= .bool false
 |_=>True
def WS(a:Nat)(cs:List Vl)(j:Nat)(y:Vl):Prop:=match j with
 |0=>y= nP (nM ⟨a,0,nN⟩)
 |1=>y= nA cs.toArray
 |2=>y= .nilIface
 |3=>y= .bool true
 |4=>y= .bool true
 |5=>y= nP (nM ⟨a,0,nN⟩)
 |6=>y= .bool true
 |7=>y= .bool true
 |8=>y= nP (nM ⟨a,0,nN⟩)
 |10=>y= .bool true
 |_=>True
theorem z0r(h:p:=by go_simp;exact j _ _ Zh (c.put ZM (by simp[WS]))):p:=h
theorem z0v(h:p:=by simp[Region.wanted]):p:=h
theorem z0t(h:p:=by obtain⟨ds,d,aq⟩:=c.old;rw[Qr z0v];refine Gj _ _ _ rfl w.heap.size cs H hs 29 ds d A.o aq N.o ?_;intro w' _ ao ap;exact j undef _ (fun _=>rfl) (c.stored trivial ao ap)):p:=h
theorem z0u(h:p:=by exact⟨Chg.refl _ _,am.o,ah.o,⟨zV,ai.o,P.o⟩,(fun e=>by cases e),fun _ e=>by cases e⟩):p:=h
theorem z0x(h:p:=by exact cg cR):p:=h
theorem z0y(h:p:=by exact j _ _ Zh (c.put ZM (by simp[aj]))):p:=h
theorem z1a(h:p:=by rw[Qr (Cw rfl ZN (c.vals 4 (o ⟨4,.guard⟩ Zh rfl)))];exact z0r):p:=h
theorem WL(l:List Ap)(sl:Vl)(xs:List Vl)(w:Wl)(hR:As w sl 6 l.length xs)(hS:Az w l xs)(d:∀s∈l,Di s)(W:l.length<=4294967296):
  Cl prog 5 #[sl] w (ZT (AS l) w):=by
 obtain⟨sa,sc,rfl,aL,aN⟩:=hR.form;have O:=UD (∀v,Chg w v []->Cl prog 15 #[nS sa l.length sc] v (ZY (AS l) v)) fun v Y=>Vq l _ xs v (hR.kept Y) (Az.kept Y hS) d W;have L:=UD (∀v,Chg w v []->Cl prog 16 #[nS sa l.length sc] v (BO l v)) fun v Y=>Fk l _ xs v (hR.kept Y) (Az.kept Y hS) d W;have af:=UD (∀t,AS l=nM t->Bt t) fun t ht=>FD d ht;have e0:(if l.length<=65536 then CA l else nN)=AS l:=rfl;obtain⟨n,hn⟩:=Ue l.length;unfold BO at L;rw[e0]at L;rw[<-hn]at O L|-;clear hR hS d W aN aL hn e0;cases T:AS l with
 |none=>
  rw[T]at O;clear L af T;go_enter func5,ntmps5;go_wp2_with fail;refine(O.o _ z0x).mono ?_;rintro e g ⟨rfl,x⟩;have H1:=UD (Chg w g []) (((Chg.refl w []).alloc _).trans x);have E:=UD (Ac g w.heap.size zV 29) ((BD w _ zV _ _ rfl rfl).kept x);obtain⟨cs,M⟩:=Ue zV;have A:=UD ((prog.info? 29).map (·.size)=nM cs.length) (by rw[M];exact A9);have N:=UD (∀u∈cs,u.oneCell'=true) (by rw[M];exact Ya);have P:=UD (zV.length=cs.length) (by rw[M]);have aE:=hZ M;rw[<-M];clear x M;go_wp2_with(refine Ae rfl _ _ _ rfl g.heap.size cs ZN ZN 29 zV (BD _ _ zV _ _ rfl rfl) A.o P.o N.o ?_;intro w2 ar S V;have ab:=hZ S;have D:=UD (Chg g w2 []) (Chg.step (b:=_) z0x V (fun i hi W=>by simp at hi;omega));clear ar S V);obtain⟨k,q⟩:=Ue (World.drew w2);have an:=hZ q;have H5:Hid (Chg w k []):=by rw[q];exact hZ (H1.o.trans D.o).drew
  have ai:Hid (Ac k w.heap.size zV 29):=by rw[q];exact hZ (E.o.kept D.o).drew
  have am:Hid (Ac k g.heap.size cs 29):=by rw[q];exact hZ ab.o.drew
  have ah:=UD (g.heap.size≠w.heap.size) (by have:=E.o.lt;omega);clear q;refine wp_region_any Yb ?_;change wpAny _ _ _ _ _ _ _ (World.drew _);rw[<-an.o];refine Dg _ (KR k w.heap.size g.heap.size cs 29 2 (aj cs)) Yb ?_ ?_ _ ?_
  .intro ii op a wa dd G f aM o aJ c K j;match ii,G with
   |0,rfl=>
    have H:a.tmps.getD 5 undef= nP (nM ⟨g.heap.size,0,nN⟩):=f.at 5 Yb;rw[Qr z0v];refine Bd _ _ rfl _ H 29 _ c.src _ underlying29 rfl A.o ?_;exact z0y
   |1,rfl=>
    go_simp;exact z0y
   |2,rfl=>
    have H:a.tmps.getD 3 undef= nP (nM ⟨w.heap.size,0,nN⟩):=f.at 3 Yb;have hs:a.tmps.getD 16 undef= nA cs.toArray:=c.vals 0 (o ⟨0,.data⟩ Zh rfl);exact z0t
   |3,rfl=>
    go_simp;exact z0y
   |_+4,G=>exact absurd G Zh
  .intro a wR dd f C c;have R:=c.dst (C 2 ZM);have y:a.tmps.getD 2 undef= nP nN:=c.vals 1 (C 1 ZM);have B:a.tmps.getD 4 undef= .bool false:=c.vals 3 (C 3 ZM);have ak:=hZ R;have al:=UD (Chg w wR []) (H5.o.fresh c.chg (fun i hi=>by simp at hi;omega));clear c C R;have r:=f.form' [16,2,4] Yb;have U:=f.defers;obtain⟨m,df⟩:=a;clear f;dsimp only[Act.put]at r U y B;simp only[List.foldl_cons,List.foldl_nil]at r;obtain⟨u16,av⟩:=Ue (m.getD 16 undef);obtain⟨u2,I⟩:=Ue (m.getD 2 undef);obtain⟨u4,J⟩:=Ue (m.getD 4 undef);rw[<-av,<-I,<-J]at r;rw[<-I]at y;rw[<-J]at B;clear av I J;simp only[List.setIfInBounds_toArray,List.set_cons_zero,List.set_cons_succ]at r;subst r;subst U;subst y;subst B;go_wp2_with fail;refine bodyPost_ret (E0 rfl _ _ w.heap.size 29 cs _ rfl ak.o underlying29 rfl A.o) rfl ?_;rw[aE.o];exact⟨rfl,al.o⟩
  .exact z0u
 |some t=>
  rw[T]at O L;have aF:=UD (Bt t) (af.o t T);clear af T;go_enter func5,ntmps5;go_wp2_with fail;refine(O.o _ z0x).mono ?_;rintro e g ⟨⟨F,cs,rfl,X,f,hw⟩,x⟩;have H1:=UD (Chg w g []) (((Chg.refl w []).alloc _).trans x);have E:=UD (Ac g w.heap.size zV 29) ((BD w _ zV _ _ rfl rfl).kept x);have au:=hZ X;have ae:=UD (∀b,F b->w.heap.size<b/\b<g.heap.size) (fun b d=>by have:=f b d;simp at this;omega);have A:=UD ((prog.info? 29).map (·.size)=nM cs.length) (by rw[(E7 X).2];exact A9);have N:=hZ (E7 X).1;have P:=UD (zV.length=cs.length) (by rw[(E7 X).2];rfl);clear x X f hw
  go_wp2_with(first
   |(refine Ae rfl _ _ _ rfl g.heap.size cs ZN ZN 29 zV (BD _ _ zV _ _ rfl rfl) A.o P.o N.o ?_;intro w2 ar S V;have ab:=hZ S;have D:=UD (Chg g w2 []) (Chg.step (b:=_) z0x V (fun i hi W=>by simp at hi;omega));clear ar S V)
   |(go_at_call 16;refine(L.o w2 (H1.o.trans D.o)).mono ?_;rintro e w3 ⟨⟨Z,z,rfl,k1,k2,k3,k4,k5⟩,k6⟩;have K1:=hZ k1;have K2:=hZ k2;have K4:=hZ k4;have K5:=hZ k5;have K6:=hZ k6;clear k1 k2 k3 k4 k5 k6))
  obtain⟨k,q⟩:=Ue (World.drew w3);have an:=hZ q;have Q:Chg g k []:=by rw[q];exact(D.o.trans K6.o).drew
  have H5:=UD (Chg w k []) (H1.o.trans Q);have ai:=UD (Ac k w.heap.size zV 29) (E.o.kept Q);have am:Hid (Ac k g.heap.size cs 29):=by rw[q];exact hZ (ab.o.kept K6.o).drew
  have ah:=UD (g.heap.size≠w.heap.size) (by have:=E.o.lt;omega);have aI:=UD (AL k F t cs) (AL.kept (Q.keepsF (fun b d=>(ae.o b d).2)) (fun _ h=>h) _ _ au.o);have aG:Hid (CG k Z z t):=by rw[q];exact hZ (K1.o.kept (Chg.refl w3 []).drew K2.o)
  have ag:=UD (∀b,Z b->w.heap.size<b/\b<k.heap.size) (fun b d=>by have x:=K4.o b d;have y:=K2.o b d;have h3:=D.o.size;have B:=E.o.lt;rw[q];exact⟨Zj,y⟩);have aH:=UD (w.heap.size<z) (by have x:=K5.o;have h3:=D.o.size;have B:=E.o.lt;omega);have ad:=UD (∀b,F b->w.heap.size<b/\b<k.heap.size) (fun b d=>by have x:=ae.o b d;have y:=Q.size;omega);clear q Q K1 K2 K4 K5 K6 au ae;refine wp_region_any Yb ?_;change wpAny _ _ _ _ _ _ _ (World.drew _);rw[<-an.o];refine Dg _ (KR k w.heap.size g.heap.size cs 29 9 (WS z cs)) Yb ?_ ?_ _ ?_
  .intro ii op a wa dd G f aM o aJ c K j;match ii,G with
   |0,rfl=>
    have h7:rS a 7= nP (nM ⟨z,0,nN⟩):=f.at 7 Yb;exact z0r
   |1,rfl=>
    have H:a.tmps.getD 5 undef= nP (nM ⟨g.heap.size,0,nN⟩):=f.at 5 Yb;rw[Qr z0v];refine Bd _ _ rfl _ H 29 _ c.src _ underlying29 rfl A.o ?_;exact j _ _ Zh (c.put ZM (by simp[WS]))
   |2,rfl=>
    have h8:rS a 8= .nilIface:=f.at 8 Yb;exact z0r
   |3,rfl=>
    have aP:rS a 24= .nilIface:=c.vals 2 (o ⟨2,.data⟩ Zh rfl);exact z0r
   |4,rfl=>
    have aQ:rS a 25= .bool true:=c.vals 3 (o ⟨3,.data⟩ Zh rfl);exact z0r
   |5,rfl=>
    have h7:rS a 7= nP (nM ⟨z,0,nN⟩):=f.at 7 Yb;exact z1a
   |6,rfl=>
    have aS:rS a 27= nP (nM ⟨z,0,nN⟩):=c.vals 5 (o ⟨5,.data⟩ Zh rfl);exact z1a
   |7,rfl=>
    have aR:rS a 26= .bool true:=c.vals 4 (o ⟨4,.data⟩ Zh rfl);have aT:rS a 28= .bool true:=c.vals 6 (o ⟨6,.data⟩ Zh rfl);exact z0r
   |8,rfl=>
    have aO:rS a 22= nP (nM ⟨z,0,nN⟩):=c.vals 0 (o ⟨0,.data⟩ Zh rfl);exact z0r
   |9,rfl=>
    have H:a.tmps.getD 3 undef= nP (nM ⟨w.heap.size,0,nN⟩):=f.at 3 Yb;have hs:a.tmps.getD 23 undef= nA cs.toArray:=c.vals 1 (o ⟨1,.data⟩ Zh rfl);exact z0t
   |10,rfl=>
    have aU:rS a 29= .bool true:=c.vals 7 (o ⟨7,.data⟩ Zh rfl);exact z0r
   |_+11,G=>exact absurd G Zh
  .intro a wR dd f C c;have R:=c.dst (C 9 ZM);have y:a.tmps.getD 2 undef= nP (nM ⟨z,0,nN⟩):=c.vals 8 (C 8 ZM);have B:a.tmps.getD 4 undef= .bool true:=c.vals 10 (C 10 ZM);have ak:=hZ R;have aa:=hZ c.chg;have al:=UD (Chg w wR []) (H5.o.fresh c.chg (fun i hi=>by simp at hi;omega));clear c C R;have r:=f.form' [22,23,24,25,26,27,28,29,2,4] Yb;have U:=f.defers;obtain⟨m,df⟩:=a;clear f;dsimp only[Act.put]at r U y B;simp only[List.foldl_cons,List.foldl_nil]at r;obtain⟨u22,aw⟩:=Ue (m.getD 22 undef);obtain⟨u23,ax⟩:=Ue (m.getD 23 undef);obtain⟨u24,ay⟩:=Ue (m.getD 24 undef);obtain⟨u25,az⟩:=Ue (m.getD 25 undef);obtain⟨u26,aA⟩:=Ue (m.getD 26 undef);obtain⟨u27,aB⟩:=Ue (m.getD 27 undef);obtain⟨u28,aC⟩:=Ue (m.getD 28 undef);obtain⟨u29,aD⟩:=Ue (m.getD 29 undef);obtain⟨u2,I⟩:=Ue (m.getD 2 undef);obtain⟨u4,J⟩:=Ue (m.getD 4 undef);rw[<-aw,<-ax,<-ay,<-az,<-aA,<-aB,<-aC,<-aD,<-I,<-J]at r;rw[<-I]at y;rw[<-J]at B;clear aw ax ay az aA aB aC aD I J;simp only[List.setIfInBounds_toArray,List.set_cons_zero,List.set_cons_succ]at r;subst r;subst U;subst y;subst B;go_wp2_with fail;refine bodyPost_ret (E0 rfl _ _ w.heap.size 29 cs _ rfl ak.o underlying29 rfl A.o) rfl ?_;have hz:=aa.o.size;obtain⟨tv,t1,t2,t3⟩:=aG.o;have aK:BZ Z k wR:=aa.o.keepsF (fun b d=>(ag.o b d).2) (fun b d hm=>by simp at d;subst d;have:=(ag.o _ hm).1;omega);refine⟨⟨F,Z,cs,z,rfl,AL.kept (aa.o.keepsF (fun b d=>(ad.o b d).2) (fun b d hm=>by simp at d;subst d;have:=(ad.o _ hm).1;omega)) (fun _ h=>h) _ _ aI.o,fun b d=>by have:=ad.o b d;omega,⟨tv, ?_,Af.kept aK (fun _ h=>h) _ _ t2,Zj⟩,fun b d=>by have:=ag.o b d;omega,aF.o⟩,al.o⟩;rw[aa.o.cell (p:=⟨z,0,nN⟩) t3 (by have:=aH.o;simp;omega)];exact t1
  .exact z0u
def dm(a:Nat)(cs:List Vl)(j:Nat)(y:Vl):Prop:=match j with
 |0=>y= nP (nM ⟨a,0,nN⟩)
 |3=>y= nP (nM ⟨a,0,nN⟩)
 |4=>True
 |5=>y= nA cs.toArray
 |6=>True
 |_=>y= .bool true
structure di(t:Tr)(tb:Nat)(cs:List Vl)(w4:Wl)(d:Nat->Bool)(f:Nat->Vl)(w:Wl):Prop where
 chg:Chg w4 w []
 vals:∀j,d j=true->dm tb cs j (f j)
 s1:d 4=true->DX w (f 4) (MW t)
 s2:d 6=true->DX w (f 6) (MW t)
theorem di.vals'{a:Nat}(h:di t a cs g d f w)(c:dm a cs j y):∀k,BA d j k=true->dm a cs k (Eb f j y k):=fun k b=>by
 by_cases e:k=j
 .subst e;rw[Bf];exact c
 .rw[AA f y e];rw[An d e]at b;exact h.vals k b
theorem di.put{i:Wl}(h:di t c cs i d f w)(e:(4:Nat)≠j)(g:(6:Nat)≠j)(k:dm c cs j y)(b:Chg w w' []):di t c cs i (BA d j) (Eb f j y) w':=
 ⟨h.chg.trans b,h.vals' k,fun a=>by rw[AA f y e];rw[An d e]at a;exact(h.s1 a).kept b,fun a=>by rw[AA f y g];rw[An d g]at a;exact(h.s2 a).kept b⟩
theorem di.put4(h:di t c cs e d f w)(g:DX w' y (MW t))(a:Chg w w' []):di t c cs e (BA d 4) (Eb f 4 y) w':=
 ⟨h.chg.trans a,h.vals' trivial,fun _=>by rw[Bf];exact g,fun b=>by rw[AA f y ZM];rw[An d ZM]at b;exact(h.s2 b).kept a⟩
theorem di.put6(h:di t c cs e d f w)(g:DX w' y (MW t))(a:Chg w w' []):di t c cs e (BA d 6) (Eb f 6 y) w':=
 ⟨h.chg.trans a,h.vals' trivial,fun b=>by rw[AA f y ZM];rw[An d ZM]at b;exact(h.s1 b).kept a,fun _=>by rw[Bf];exact g⟩
theorem z0s(h:p:=by rw[Qr z0v];go_simp;exact i _ _ Zh (c.put ZM ZM (by simp[dm]) cR)):p:=h
theorem dt(t:Tr)(F y:Nat->Prop)(j:Nat)(cs:List Vl)(w:Wl)(v:Bt t)(L:CG w y j t)(z:∀b,y b->b<w.heap.size)(E:AL w F t cs)(g:∀b,F b->b<w.heap.size):
  Cl prog 12 #[nP (nM ⟨j,0,nN⟩),nA cs.toArray] w (BU true w):=by
 have hn:=(Ar v.fits).1;have B:∀s∈Ai t,s.keys.length<=2147483648:=fun s D=>(Uy t v.good v.fits s D).keys;obtain⟨r,x⟩:=Ue (World.drew (w.alloc (nC cs.toArray 29)));have I:=hZ x;have m:Hid (Chg w r []):=by rw[x];exact hZ ((Chg.refl w []).alloc _).drew
 have S:Hid (Ac r w.heap.size cs 29):=by rw[x];exact hZ (Ac.new w cs _).drew
 have U:=UD ((prog.info? 29).map (·.size)=nM cs.length) (by rw[E.length];exact A9)
 have Y:=UD (∀f,Chg r f []->Cl prog 20 #[nP (nM ⟨j,0,nN⟩)] f (cJ t f)) fun f o=>
  (TY y j t f (L.kept (m.o.trans o) z) (fun b A=>Q6 (z b A) (m.o.trans o).size) Zj).mono fun e w' h=>cK h
 have X:=UD (∀f,Chg r f []->Cl prog 27 #[nA cs.toArray] f (cJ t f)) fun f o=>
  dl t F cs f hn B (AL.kept ((m.o.trans o).keepsF g) (fun _ h=>h) _ _ E) (fun b A=>Q6 (g b A) (m.o.trans o).size)
 have V:=UD (∀s∈MW t,s.keys.length<=4294967296) fun s D=>by
  obtain⟨p,d,rfl⟩:=List.mem_map.1 D;have:=B p d;show p.keys.length<=_
  omega
 clear v L z E g B x;go_enter func12,ntmps12;go_wp2_with fail;refine wp_region_any Yb ?_;change wpAny _ _ _ _ _ _ _ (World.drew _);rw[<-I.o];refine Dg _ (di t j cs r) Yb ?_ ?_ _ ?_
 .intro ii op a u Z C g ag l af c K i;have d:=fun k=>l ⟨k,.data⟩;match ii,C with
  |0,rfl=>
   have h0:rS a 0= nP (nM ⟨j,0,nN⟩):=g.at 0 Yb;exact z0s
  |1,rfl=>
   have h5:rS a 5= nP (nM ⟨j,0,nN⟩):=c.vals 0 (d 0 Zh rfl);exact z0s
  |2,rfl=>
   have h6:rS a 6= .bool true:=c.vals 1 (d 1 Zh rfl);exact z0s
  |3,rfl=>
   have h0:rS a 0= nP (nM ⟨j,0,nN⟩):=g.at 0 Yb;rw[Qr (Cw rfl ZN (c.vals 2 (l ⟨2,.guard⟩ Zh rfl)))];go_simp;exact i _ _ Zh (c.put ZM ZM (by simp[dm]) cR)
  |4,rfl=>
   have h8:rS a 8= nP (nM ⟨j,0,nN⟩):=c.vals 3 (d 3 Zh rfl);rw[Qr (Cw rfl ZN (c.vals 2 (l ⟨2,.guard⟩ Zh rfl)))];go_simp;go_at_call 20;refine(Y.o u c.chg).mono ?_;rintro e R ⟨s1,rfl,q,n⟩;exact i _ _ Zh (c.put4 q n)
  |5,rfl=>
   have h3:a.tmps.getD 3 undef= nP (nM ⟨w.heap.size,0,nN⟩):=g.at 3 Yb;rw[Qr (Cw rfl ZN (c.vals 2 (l ⟨2,.guard⟩ Zh rfl)))];refine Bd _ _ rfl _ h3 29 _ (S.o.kept c.chg) _ underlying29 rfl U.o ?_;exact i _ _ Zh (c.put ZM ZM (by simp[dm]) cR)
  |6,rfl=>
   have aa:rS a 10= nA cs.toArray:=c.vals 5 (d 5 Zh rfl);rw[Qr (Cw rfl ZN (c.vals 2 (l ⟨2,.guard⟩ Zh rfl)))];go_simp;go_at_call 27;refine(X.o u c.chg).mono ?_;rintro e R ⟨s1,rfl,q,n⟩;exact i _ _ Zh (c.put6 q n)
  |7,rfl=>
   obtain⟨G,h9,P⟩:∃G,a.tmps.getD 9 undef=G/\DX u G (MW t):=⟨_,rfl,c.s1 (d 4 Zh rfl)⟩;obtain⟨H,ab,Q⟩:∃H,a.tmps.getD 11 undef=H/\DX u H (MW t):=⟨_,rfl,c.s2 (d 6 Zh rfl)⟩;have T:=Rf _ _ _ u P Q (by rw[Ju];omega) V.o;clear P Q;rw[Qr (Cw rfl ZN (c.vals 2 (l ⟨2,.guard⟩ Zh rfl)))];go_simp;go_at_call 19;refine T.mono ?_;rintro e R ⟨rfl,n⟩;exact i _ _ Zh (c.put ZM ZM (by simp[dm]) n)
  |8,rfl=>
   have h7:rS a 7= .bool true:=c.vals 2 (d 2 Zh rfl);have ad:rS a 12= .bool true:=c.vals 7 (d 7 Zh rfl);exact z0s
  |9,rfl=>
   have ae:rS a 13= .bool true:=c.vals 8 (d 8 Zh rfl);exact z0s
  |_+10,C=>exact absurd C Zh
 .intro a wR Z g M c;have J:a.tmps.getD 4 undef= .bool true:=c.vals 9 (M 9 ZM);have W:=UD (Chg w wR []) (m.o.trans c.chg);clear c M I;obtain⟨fu,N,rfl⟩:=g.fin2 [5,6,7,8,9,10,11,12,13,4] Yb;have O:=(N 4).symm.trans J;clear g N J;rw[O];clear O;go_wp2_with fail;go_ret;exact⟨rfl,W.o⟩
 .exact⟨Chg.refl _ _,(fun _ e=>by cases e),(fun e=>by cases e),(fun e=>by cases e)⟩
end
section
open Go Go.Shelf Go.RowKit Go.Lib Tree Ptr

theorem T7.toB{o:Bq}(h:T7 o):ZL o:=⟨Q7 h.path ZM,Q7 h.frm ZM,h.steps⟩
structure UG(w:Wl)(so:Vl)(ops:List Bq)(xs:List Vl):Prop where
 row:As w so 4 ops.length xs
 at_:Cc w ops xs
 small:∀o∈ops,T7 o
 many:ops.length<=4294967296
theorem UG.kept{w w':Wl}{c:Vl}{b:List Bq}{xs:List Vl}(h:UG w c b xs)(a:Chg w w' []):UG w' c b xs:=
 ⟨h.row.kept a,Cc.kept a h.at_,h.small,h.many⟩
structure aq(w:Wl)(sl:Vl)(l:List Ap)(xs:List Vl):Prop where
 row:As w sl 6 l.length xs
 at_:Az w l xs
 small:∀s∈l,Di s
 many:l.length<=4294967296
end
section
open _root_.Go.Proofs.Tryz
open Go Go.Shelf Go.RowKit Go.Lib Tree Ptr
theorem fZ(d:Nat)(a:Option Addr)(n c:Nat)(w:Wl)(h:65536<n)(i:n<=4294967296):
  Cl prog 14 #[nP (nM ⟨d,0,nN⟩),nS a n c] w fun e w'=>e= nR (nT #[nS nN 0 0,nF 74 (nI nX 3)])/\Chg w w' []:=by
 have g:=hZ (cN d a n c w h i);go_enter func14,ntmps14;go_wp2_with((go_at_call 24;refine g.o.mono ?_;rintro e j ⟨rfl,b⟩;have f:=hZ b;clear b));go_ret2;exact⟨rfl,f.o⟩
theorem iJ{w0 w:Wl}{os:List Bq}{B c:Nat}(a:Ba w (nS (nM ⟨B,0,nN⟩) 0 c) 42 4 0 [])(f:w0.heap.size<=B)(h:Chg w0 w []):fT w0 os 0 (nS (nM ⟨B,0,nN⟩) 0 c) w:=
 ⟨⟨[],fun _=>False,a,rfl,fun b (d:False)=>d.elim,fun g e=>⟨by simp[Vl.ownBlock]at e;omega,id⟩⟩,h⟩
def jb(b:List Bq)(w:Wl)(e:Ending)(w':Wl):Prop:=∃a xs G,e= nR a/\EW w w' b a xs G/\Chg w w' []
theorem z1b{p:Prop}(h:p:=by have:=Q.o;omega):p:=h
theorem iD(z:List Bq)(so:Vl)(xs:List Vl)(w:Wl)(hR:As w so 4 z.length xs)(hI:Cc w z xs)(B:∀o∈z,T7 o)(hn:z.length<=4294967296):
  Cl prog 7 #[so] w (jb z w):=by
 obtain⟨sa,sc,rfl,_⟩:=hR.form;have HR:=hZ hR;have HI:=hZ hI;have HS:=hZ B;obtain⟨n,ah⟩:=Ue z.length;have Q:=hZ ah;rw[<-ah]at hn|-;clear hR hI B ah;go_enter func7,ntmps7;go_wp2_with((at_make;refine KM rfl _ _ _ rfl 42 (nA #[nI nX 0,nG ⟨#[]⟩,nG ⟨#[]⟩,nS nN 0 0]) 4 64 underlying23 JK _ _ _ (n+2) rfl rfl (by first|rfl|omega) Zj (by unfold maxLen;omega) w.heap.size Zh ?_;intro w1 r aL;have av:=hZ r;have ap:=hZ aL;clear r aL));go_loopw [15,3] (fun al v3 wr=>∃i:Nat,i<=n/\al= nI nX i/\fT w z i v3 wr) (fun al _ _=>n-(intOf al).toNat)
 case atStart=>exact⟨0,Zj,rfl,iJ av.o (Q8 _) ap.o⟩
 case round=>
  obtain⟨i,hi,rfl,aP⟩:=hrel;have A:=hZ aP;clear aP av ap;by_cases be:i<n
  .obtain⟨o,R⟩:∃o,z[i]? =nM o:=⟨_,Q9 z1b⟩;obtain⟨b,ob,rfl,_⟩:=HR.o.base z1b ZM;obtain⟨sv,yv,aj,aS,aQ⟩:=Cc.item HR.o z1b HI.o R;obtain⟨U,V,rfl,_⟩:=aj.form;have a:∀j x,(BJ o (nS U o.steps.length V))[j]? =nM x->wr.cell? ⟨b,ob+i*4+j,nN⟩=nM x:=fun j x hx=>A.o.chg.keeps (aQ j x hx);have c0:=a 0 _ rfl;have c1:=a 1 _ rfl;have c2:=a 2 _ rfl;have c3:=a 3 _ rfl;rw[Nat.add_zero]at c0;obtain⟨bc,G0,ab,aD,aB,aK⟩:=A.o.ex;obtain⟨qa,qc,rfl,_⟩:=ab.form;have ad:=HS.o o (Qi R);have HO:=hZ R;have ay:=hZ aj;have a4:=hZ aS;have au:=hZ ab;have a0:=hZ aD;have aY:=hZ aB;have a5:=hZ aK;have a1:=hZ ad;have az:=hZ A.o.chg;obtain⟨m,t⟩:=Ue o.steps.length;have bg:m<=4294967296:=by have:=ad.len;omega
   have P:=hZ t;rw[<-t]at ay c3;clear t R a aQ aj aS ab aD aB aK ad A;go_wp2_with((at_make;refine KM rfl _ _ _ rfl 55 Iq 6 72 underlying22 DM _ _ _ (m+2) rfl rfl (by first|rfl|omega) Zj (by unfold maxLen;omega) (wr.heap.size+1) Zh ?_;intro w2 aC af;have aw:=hZ aC;have aq:=hZ af;have H:=hZ ((Ac.new wr [nI nX o.kind,nG o.path,nG o.frm,nS U m V] 42).kept af);obtain⟨lx,fx,x0,x1,x2,x3⟩:=Ac.cells4 H.o;clear aC af));obtain⟨M,ak⟩:=Ue (wr.alloc (nC #[nI nX o.kind,nG o.path,nG o.frm,nS U m V] 42));have C:Hid (Chg wr M []/\M.heap.size=wr.heap.size+1/\Ac M wr.heap.size [nI nX o.kind,nG o.path,nG o.frm,nS U m V] 42):=by rw[ak];exact hZ ⟨(Chg.refl wr []).alloc _,Zh,Ac.new _ _ _⟩
   have ar:Hid (Chg M w2 []):=by rw[ak];exact aq
   clear ak aq;obtain⟨F,ba⟩:=Ue wr;subst ba;go_loopw [27,6] (fun am v6 wq=>∃j:Nat,j<=m/\am= nI nX j/\gW M o.steps j v6 wq) (fun am _ _=>m-(intOf am).toNat)
   case atStart=>exact⟨0,Zj,rfl,gW.start aw.o (by have:=C.o.2.1;omega) ar.o⟩
   case round=>
    obtain⟨j,hj,rfl,aG⟩:=hrel;have f:=hZ aG;clear aG aw ar H lx fx x0 x1 x2 x3;by_cases bf:j<m
    .obtain⟨s,B⟩:∃s,o.steps[j]? =nM s:=⟨_,Q9 (by have:=P.o;omega)⟩;obtain⟨sb,bb,rfl,aF⟩:=ay.o.base Zj ZM;obtain⟨sk,ai,aR⟩:=Az.get a4.o j s B;obtain⟨ka,kc,rfl,_⟩:=ai.form;have S:Chg w wr []:=(az.o.trans C.o.1).trans f.o.chg;have a:∀q v,(AI s (nS ka s.keys.length kc))[q]? =nM v->wr.cell? ⟨sb,bb+j*6+q,nN⟩=nM v:=fun q v L=>S.keeps (by rw[Nat.add_assoc];exact aF _ v (aR q v L));have d0:=a 0 _ rfl;have d1:=a 1 _ rfl;have d2:=a 2 _ rfl;have d3:=a 3 _ rfl;have d4:=a 4 _ rfl;have d5:=a 5 _ rfl;rw[Nat.add_zero]at d0;have aN:s.keys.length<=4294967296:=by have:=(a1.o.steps s (Qi B)).keys;omega
     have an:=UD (∀N,Chg wr N []->Cl prog 23 #[nS ka s.keys.length kc] N (Dm N 9 (Ad s.keys))) fun N hy=>by
      have h1:=(ai.kept (S.trans hy)).rowLt;exact DL _ _ _ N h1 (Gu s.keys) (by rw[Ao];exact aN)
     obtain⟨ys,G,hL,hO,hG,D⟩:=f.o.ex;obtain⟨l,p,rfl,_⟩:=hL.form;have bd:=hZ S;have a3:=hZ B;have HL:=hZ hL;have a2:=hZ hO;have aZ:=hZ hG;have a6:=hZ D;have aV:=hZ f.o.chg;obtain⟨k,ag⟩:=Ue s.keys.length;have Y:=hZ ag;rw[<-ag]at an d5;clear B aF ai aR a aN hL hO hG D f S ag
     go_wp2_with(first
      |(go_at_call 23;refine(an.o _ z0x).mono ?_;rintro e E ⟨v5,rfl,T,k2,k3⟩;obtain⟨u,y,rfl,_⟩:=T.form;rw[Ao,<-Y.o]at T k2|-;have K1:=hZ T;have K2:=UD (∀g,(Vl.slice u k y).ownBlock=nM g->wr.heap.size+1<=g) (fun g D=>by have:=k2 g D;simpa using this);have aU:=hZ ((Ac.new wr [nI nX s.sort,.bool s.flag,nI .u64 s.bits,nG s.text,nI nX s.count,nS ka k kc] 55).kept k3);have H5:=UD (Chg wr E []) (ct cR k3);obtain⟨ly,fy,y0,y1,y2,y3,y4,y5⟩:=Ac.cells6 aU.o;clear T k2 k3)
      |(at_builtin;go_loud(refine Bg rfl _ _ _ rfl 55 Iq 6 72 ZM underlying22 DM rfl (nS l j p) j ys ZN (by exact HL.o.kept (bs:=[]) ((H5.o.setCell _ _ Zh).alloc _) Zh) E.heap.size (AI s (nS u k y)) ZN rfl (by intro j v L;exact((BD _ _ (AI s (nS u k y)) 55 _ rfl Zh).cell j).trans L) (C0 _ _ _ _) Zj Zj ?_);intro g a7 w7 J I K;have Z:=hZ J;have X:=hZ I;have aa:=hZ K;clear J I K))
     go_roundw
     case rel=>
      have h6:Chg wr ((E.setCell ⟨wr.heap.size,5,nN⟩ (nS u k y)).alloc (nC (AI s (nS u k y)).toArray 55)) []:=(H5.o.setCell _ _ Zh).alloc _;have a8:Chg E ((E.setCell ⟨wr.heap.size,5,nN⟩ (nS u k y)).alloc (nC (AI s (nS u k y)).toArray 55)) [wr.heap.size]:=((Chg.refl E _).setCell _ _ Zh).alloc _;have aM:=K1.o.kept a8 (fun g D t=>by have:=K2.o g D;simp at t;omega);refine⟨j+1,Zj,by go_num,gW.next aV.o HL.o a2.o aZ.o a6.o a3.o h6 (by rw[<-Y.o];have:=aM.rowC;rwa[Ao,<-Y.o]at this) (show SE (fun b=>(Vl.slice u k y).ownBlock=nM b) _ from fun b o n c e=>by rw[e];rfl) (fun b d=>⟨by have:=K2.o b d;omega,aM.lt d⟩) cR Z.o X.o (aa.o.imp id (fun h=>by rw[h];simp))⟩
     case measure=>simp[intOf];omega
    .obtain rfl:j=m:=by omega
     obtain⟨ys,W,ae,aH,aI,aJ⟩:=f.o.done P.o;obtain⟨_,_,r,_⟩:=f.o.ex;obtain⟨l,p,rfl,_⟩:=r.form;clear r;have H:=hZ (C.o.2.2.kept f.o.chg);obtain⟨lx,fx,x0,x1,x2,x3⟩:=Ac.cells4 H.o;have aO:Chg F wr []:=C.o.1.trans f.o.chg;have ax:=hZ aO;have aA:=hZ C.o.2.1;rw[<-P.o]at ae;have aW:=hZ ae;have ao:=hZ aH;have aX:=hZ aI;have O:=hZ aJ;clear ae aH aI aJ aO C f;have bh:n<=4294967296:=hn
     go_wp2_with(first
      |(refine uN ((H.o.set 3 _).eq rfl) ?_)
      |(at_builtin;go_loud(refine Bg rfl _ _ _ rfl 42 (nA #[nI nX 0,nG ⟨#[]⟩,nG ⟨#[]⟩,nS nN 0 0]) 4 64 ZM underlying23 JK rfl (nS qa i qc) i bc ZN (by exact au.o.kept (bs:=[]) ((ax.o.setCell _ _ Zh).alloc _) Zh) wr.heap.size (BJ o (nS l j p)) ZN rfl (by intro j' v L;exact((BD _ _ (BJ o (nS l j p)) 42 _ rfl Zh).cell j').trans L) (Dx _ _ _ _) Zj Zj ?_);intro g a7 w7 J I K;have Z:=hZ J;have X:=hZ I;have aa:=hZ K;clear J I K))
     go_roundw
     case rel=>
      have a9:∀b,W b->b≠F.heap.size:=fun b d=>by have:=(O.o b d).1;have:=aA.o;omega
      have h6:Chg F ((wr.setCell ⟨F.heap.size,3,nN⟩ (nS l j p)).alloc (nC (BJ o (nS l j p)).toArray 42)) []:=(ax.o.setCell _ _ Zh).alloc _;have k6:BZ W wr ((wr.setCell ⟨F.heap.size,3,nN⟩ (nS l j p)).alloc (nC (BJ o (nS l j p)).toArray 42)):=(show Chg wr _ [F.heap.size]from((Chg.refl wr _).setCell _ _ Zh).alloc _).keepsF (fun b d=>(O.o b d).2) (fun b t d=>by simp at t;exact a9 b d t);exact⟨i+1,Zj,by go_num,fT.next az.o au.o a0.o aY.o a5.o HO.o h6 (by rw[<-P.o];exact aW.o.keptF ao.o k6) ao.o (Cr.kept k6 (fun _ h=>h) aX.o) (fun b d=>⟨by have:=(O.o b d).1;have:=aA.o;omega,Q6 (O.o b d).2 Zh⟩) cR Z.o X.o aa.o⟩
     case measure=>simp[intOf];omega
  .obtain rfl:i=n:=by omega
   obtain⟨bi,W,aE⟩:=A.o.done Q.o;obtain⟨_,_,r,_⟩:=A.o.ex;obtain⟨l,p,rfl,_⟩:=r.form;have aT:=hZ aE;clear aE r;go_wp2_with fail;go_ret;exact⟨_,_,_,rfl,aT.o,A.o.chg⟩
end
end Go.Proofs.YtpdnhfkacgdocaaGreatDoor

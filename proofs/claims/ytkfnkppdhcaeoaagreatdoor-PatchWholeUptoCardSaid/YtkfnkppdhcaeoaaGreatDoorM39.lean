/- Part 39 of the proof of patchJoined_card. -/
import Derived.Lib.AppendZeros
import Derived.Test.YtkfnkppdhcaeoaaGreatDoorM38
set_option maxRecDepth 100000
set_option maxHeartbeats 32000000
set_option linter.unusedSimpArgs false
set_option linter.unusedVariables false
set_option linter.unnecessarySimpa false
namespace Go.Proofs.YtkfnkppdhcaeoaaGreatDoor
open Go renaming Calls->Cl,TypeId->Ti,Value->Vl,World->Wl
section
open _root_.Go.Proofs.Tryz
open Go Go.Shelf Go.RowKit Go.Lib Tree Ptr
theorem JK:(prog.info? 42).map (fun i=>(i.zero,i.size,i.bytes))=some (some (.agg #[.int .i64 0,.string ⟨#[]⟩,.string ⟨#[]⟩,.slice none 0 0]),4,64):=by kernel_rfl
theorem Yo{t b:Tr}{o:Bq}{v:List CW}(h:Gz t o= .yes b v):v.length<=2:=by
 unfold Gz at h;split at h
 .cases h
 .unfold Da at h
  repeat' split at h
  all_goals first
   |(obtain⟨_,_,rfl,_⟩:=Fd h;simp)
   |(obtain⟨_,rfl,_⟩:=Ib h;simp)
   |(injection h with c a;subst a;simp)
   |cases h
theorem Sa:∀{l:List Bq} {t b:Tr} {u v:List CW} {i:Nat},BR t u i l= .yes b v->v.length<=u.length+2*l.length
 |[],t,b,u,v,i,h=>by simp[BR]at h;rw[h.2];simp
 |o::l,t,b,u,v,i,h=>by
  simp only[BR]at h
  cases a:Gz t o with
  |no e=>rw[a]at h;cases h
  |yes c w=>
   rw[a]at h;have:=Sa h;have:=Yo a;simp only[Qk,Qj]at*;omega
theorem Eh.one{w:Wl}{F:Nat->Prop}{l:List Bq}{xs:List Vl}(h:Eh w F l xs):∀u∈xs,u.oneCell'=true:=Cc.one h.toIn
theorem AK.maxLe{w:Wl}{sv:Vl}{e:Ti}{vs:List Vl}(h:AK w sv e vs):vs.length<=9223372036854775807:=by
 rcases h.2 with⟨d,f⟩|⟨g,b,c,j,_,_,i,a,_⟩
 .omega
 .unfold maxLen at a;omega
def Jz(r:Zi)(w:Wl)(e:Ending)(w':Wl):Prop:=match r with
 | .no k i=>e= .returned (.tuple #[.slice none 0 0,Hk k i])/\Chg w w' []
 | .yes _ u=>if 65536<u.length then e= .returned (.tuple #[.slice none 0 0,.iface 50 (.int .i64 3)])/\Chg w w' []else
  ∃a xs G,e= .returned (.tuple #[a,.nilIface])/\EW w w' (u.map CW.toI) a xs G/\Chg w w' []
theorem Xn(F:Nat->Prop)(tb:Nat)(t:Tr)(E:List Bq)(so:Vl)(xs:List Vl)(w:Wl)(h:Yc w F tb t E so xs):
  Cl prog 21 #[.pointer (some ⟨tb,0,none⟩),so] w (Jz (BR t [] 0 E) w):=by
 have m:=Xs t F tb E so xs w h.laid h.big h.tree h.lt h.fine h.row h.at_ h.small h.many;unfold Fb at m;obtain⟨sa,sc,rfl,_⟩:=h.row.form;have ai:=h.many;obtain⟨nl,Y⟩:∃n,n=E.length:=⟨_,rfl⟩
 rw[<-Y]at m|-
 cases C:BR t [] 0 E with
 |no k i=>
  rw[C]at m;have R:=hZ m;clear m C h Y ai;go_enter func21,ntmps21
  go_wp2_with((go_at_call 43;refine R.o.mono ?_;rintro e y ⟨rfl,a⟩;have z:=hZ a;clear a))
  go_ret2
  exact⟨rfl,z.o⟩
 |yes t' u=>
  rw[C]at m;have am:u.length<=131072:=by have:=Sa C;simp at this;omega
  have af:=hZ am;have R:=hZ m;clear m C h Y ai am;go_enter func21,ntmps21
  go_wp2_with((go_at_call 43;refine R.o.mono ?_;rintro e y ⟨⟨W,f,v,uv,bs,vs,G,rfl,x,ah⟩,a⟩;have z:=hZ a;have T:=hZ x;have ad:=hZ ah;obtain⟨ua,uc,rfl,al⟩:=x.row.form;have c3:=x.wat.blk.cell 3;simp only[Qa,Qb]at c3;have lW:=x.wat.blk.lt;have av:=hZ al;have U:=hZ x.grp.length;have aA:=x.row.maxLe;clear a x ah al))
  obtain⟨n,X⟩:∃n,n=vs.length:=⟨_,rfl⟩
  have S:=hZ X;have M:Hid (f.flatten.length=u.length):=hZ (by have:=congrArg List.length ad.o;simpa using this);rw[<-X]at c3 aA|-;clear X;go_loopw [25,8] (fun aa v8 wr=>∃(i:Nat) (d:List UF) (q:Option Addr) (K:Nat),i<=n/\aa= .int .i64 i/\v8= .slice q d.length K/\Ba wr v8 42 4 d.length (d.flatMap D0)/\Eh y G (f.take i).flatten (d.flatMap D0)/\d.length=(f.take i).flatten.length/\Chg y wr []/\(∀g,v8.ownBlock=some g->y.heap.size<=g)) (fun aa _ _=>n-(intOf aa).toNat)
  case atStart=>exact⟨0,[],none,0,by omega,rfl,rfl,Ba.nil _ _ _,rfl,rfl,Chg.refl _ _,fun g c=>by cases c⟩
  case round=>
   obtain⟨i,d,q,K,hi,rfl,rfl,hL,hF,ag,hc,aj⟩:=hrel;have I:=hZ hL;have HF:=hZ hF;have ab:=hZ ag;have l:=hZ hc;have A:=hZ aj
   have aD:d.length<=131072:=by
    have a:(f.take i).flatten.length<=f.flatten.length:=by
     conv=>rhs;rw[<-List.take_append_drop i f]
     rw[List.flatten_append,Qk];omega
    have:=M.o;have:=af.o;omega
   clear hL hF ag hc aj;by_cases aE:i<n
   .obtain⟨os,O⟩:∃os,f[i]? =some os:=⟨_,Q9 (by have:=U.o;have:=S.o;omega)⟩
    obtain⟨sl,ys,Q,P,ax,N⟩:=T.o.grp.get i os O;obtain⟨ug,rfl⟩:=av.o (by intro e;rw[e]at Q;simp at Q);have c4:wr.cell? ⟨ug,i,none⟩=some sl:=l.o.keeps (T.o.row.cell rfl i _ Q);obtain⟨B,V,rfl⟩:=N.enc;obtain⟨la,lc,rfl,_⟩:=P.form;rw[<-V]at P c4;have au:=hZ (P.kept l.o)
    have aF:B.length<=131072:=by
     have a:os.length<=f.flatten.length:=by
      have:=List.sublist_flatten_of_mem (Qi O);exact this.length_le
     have:=M.o;have:=af.o;omega
    have ao:=hZ N.one;have ap:=hZ N;have an:=hZ V;have aq:=hZ O;clear Q P ax N V O;go_wp2_with(refine Fs rfl _ _ 23 rfl 42 _ 4 64 (by decide) underlying23 JK rfl (.slice q d.length K) d.length (d.flatMap D0) (by rfl) I.o B.length (B.flatMap D0) (.slice la B.length lc) (by rfl) au.o ao.o (by omega) (by omega) ?_;intro q2 aw w3 p r k3;have J:=hZ p;have s:=hZ r;have K3:=hZ k3;clear p r k3)
    go_roundw
    case rel=>
     have L:(f.take (i+1)).flatten=(f.take i).flatten++os:=by rw[Cb aq.o,List.flatten_append];simp
     refine⟨i+1,d++B,q2,aw,by omega,by go_num,by rw[Qk], ?_, ?_, ?_, ?_, ?_⟩
     .rw[List.flatMap_append,Qk];exact J.o
     .rw[L,List.flatMap_append];exact HF.o.append ap.o
     .rw[L,Qk,Qk,ab.o,an.o]
     .exact l.o.fresh s.o fun g c=>A.o g (by simpa using c)
     .intro g c
      rcases K3.o g c with h|h
      .exact A.o g h
      .have:=l.o.size;omega
    case measure=>simp[intOf];omega
   .obtain rfl:i=n:=by omega
    have W:d.length=u.length:=by
     have a:=ab.o;rw[Qn (by have:=U.o;have:=S.o;omega)]at a;rw[a,M.o]
    have ak:Eh y G (u.map CW.toI) (d.reverse.flatMap D0):=by
     have a:=HF.o;rw[Qn (by have:=U.o;have:=S.o;omega)]at a;rw[<-ad.o];exact PU (by rw[M.o];exact W) a
    have ar:=hZ ak;have ae:=hZ (YO d _ wr I.o (by omega));have H:=hZ W;clear ak W;by_cases aC:(65536:Int)<(d.length:Int)
    .go_wp2_with((go_at_call 47;refine ae.o.mono ?_;rintro e w5 ⟨rfl,p,r⟩;have J:=hZ p;have s:=hZ r;clear p r))
     go_ret2
     have Z:65536<u.length:=by have:=H.o;omega
     show Jz (.yes t' u) w _ _
     unfold Jz
     dsimp only
     rw[Qr Z];exact⟨rfl,(z.o.trans l.o).fresh s.o fun g c=>by have:=A.o g (by simpa using c);have:=z.o.size;omega⟩
    .go_wp2_with((go_at_call 47;refine ae.o.mono ?_;rintro e w5 ⟨rfl,p,r⟩;have J:=hZ p;have s:=hZ r;clear p r))
     go_ret2
     have Z:¬65536<u.length:=by have:=H.o;omega
     show Jz (.yes t' u) w _ _
     unfold Jz
     dsimp only
     rw[Qs Z];have hG:∀b,G b->w.heap.size<=b/\b<y.heap.size:=T.o.gnew
     have hk:BZ G y w5:=(l.o.fresh s.o fun g c=>A.o g (by simpa using c)).keepsF (fun b j=>(hG b j).2);have aG:=z.o.size;have aH:=l.o.size;have aI:=s.o.size;refine⟨_,d.reverse.flatMap D0,fun b=>G b\/(Vl.slice q d.length K).ownBlock=some b,rfl,⟨?_,fun b o n' c' e=> ?_,ar.o.kept hk fun b j=> .inl j,fun b j=> ?_⟩,(z.o.trans l.o).fresh s.o fun g c=>by have:=A.o g (by simpa using c);omega⟩
     .have:=J.o
      rw[H.o]at this;rw[List.length_map,H.o];exact this
     .injection e with L e2 e3
      subst L
      right
      rcases I.o.2 with⟨a,_⟩|⟨g,cp,aB,D,_⟩
      .injection a with a;cases a
      .injection D with D
       injection D with D
       injection D with ay az
       subst ay;subst az;rfl
     .rcases j with j|j
      .have:=hG b j;omega
      .have a:=A.o b j
       have h2:=I.o.lt j;omega
theorem Wk{t:Tr}(a:Bt t){l:List Ap}(f:l=(Ai t).map Aw.toI){b:Vl}{xs:List Vl}{w:Wl}(c:As w b 6 l.length xs)(d:Az w l xs):Cl prog 28 #[b] w (F9 t w):=by
 subst f;refine(Fk _ b xs w c d (KI a) ?_).mono fun e w' h=>BO.steps a h
 have:=(Ar a.fits).1;rw[List.length_map,BL];omega
theorem PE:∀o∈DH,T7 o:=by
 intro o a;have b:=Lj o a;simp only[DH,Qh,List.not_mem_nil,or_false]at a
 rcases a with rfl|rfl
 .exact⟨by decide,by decide,b.steps,by decide⟩
 .exact⟨by decide,by decide,b.steps,by decide⟩
theorem Yp:Bt T1:=⟨⟨WJ,rfl,⟨Xb,Xe,Xc,trivial⟩,trivial⟩,by decide⟩
theorem Yq:Bt (.obj [kC] [.null]):=⟨⟨Rc,rfl,trivial,trivial⟩,by decide⟩
theorem TS:∀o∈Fa.map CW.toI,T7 o:=by
 intro o a;simp only[Fa,List.map_cons,List.map_nil,Qh,List.not_mem_nil,or_false]at a
 rcases a with rfl|rfl
 .exact⟨by decide,by decide,KI Yq,by decide⟩
 .exact⟨by decide,by decide,(fun s b=>by cases b),by decide⟩
def Vh(A:Nat):List Vl:=BJ Z5 (.slice (some ⟨A,0,none⟩) 1 1)++(BJ ak IQ++[])
theorem YE{w:Wl}{A:Nat}(a:Ac w A (AI (Fv f9) IQ) 72):Cc w DH (Vh A):=
 ⟨.slice (some ⟨A,0,none⟩) 1 1,AI (Fv f9) IQ++[],_,rfl,As.ofBlk a rfl,Az.cons (As.nil w 1) rfl,⟨IQ,[],_,rfl,As.nil w 6,rfl,rfl⟩⟩
def UA(A:Nat):List Vl:=AI (Fv f1) IQ++(AI (Fv f9) IQ++(AI (Fv f2) IQ++(AI (Un 3) IQ++(AI (Ve [kA]) (.slice (some ⟨A,0,none⟩) 1 1)++[]))))
theorem Y1{w:Wl}{A B:Nat}(a:Ac w A (Ad [kA]) 9)(b:Ac w B (UA A) 72):DX w (.slice (some ⟨B,0,none⟩) 5 5) Ln:=
 SL (As.ofBlk b rfl) (Az.cons (As.nil _ 1) (Az.cons (As.nil _ 1) (Az.cons (As.nil _ 1) (Az.cons (As.nil _ 1) (Az.cons (As.ofBlk a rfl) rfl)))))
theorem V3:∀s∈Ln,s.keys.length<=4294967296:=by
 intro s a;simp only[Ln,Qh,List.not_mem_nil,or_false]at a
 rcases a with rfl|rfl|rfl|rfl|rfl<;>decide
theorem Ko(w:Wl)(hL:Br w)(ag:10<=w.heap.size):Cl prog 13 #[] w (BU true w):=by
 have HL:=hZ hL;have Z:=hZ ag;clear hL ag;go_enter func13,ntmps13
 go_wp2_with(first
  |(go_at_call 33;refine(Tc w).mono ?_;rintro e w1 ⟨g,xs,rfl,D,E,H⟩;have K1:=hZ D;have K2:=hZ E;have K3:=hZ H;clear D E H)
  |(go_at_call 28;refine(Wk LH PA K1.o K2.o).mono ?_;rintro e w2 ⟨F,p,rfl,q1,q2,q3,_⟩;have Q1:=hZ q1;have V:=hZ q2;have K:=hZ (K3.o.trans q3);clear q1 q2 q3)
  |(go_at_call 31;refine(Ph f9 _).mono ?_;rintro e q ⟨rfl,h⟩;have H3:Hid (Chg w2 q []):=hZ h;clear h))
 obtain⟨A,L⟩:∃x,x=q.heap.size:=⟨_,rfl⟩
 obtain⟨I,B⟩:∃y,y=(q.alloc (.cells (AI (Fv f9) IQ).toArray 72)).alloc (.cells (Vh q.heap.size).toArray 42):=⟨_,rfl⟩
 have o:Chg w2 I []:=by rw[B];exact(H3.o.alloc _).alloc _
 have u:Ac I A (AI (Fv f9) IQ) 72:=by rw[B,L];exact(Ac.new _ _ _).alloc _
 have v:Ac I (A+1) (Vh A) 42:=by rw[B,L];exact BD _ _ _ _ _ rfl (by simp)
 have R:Hid (Yc I F p T0 DH (.slice (some ⟨A+1,0,none⟩) 2 2) (Vh A)):=Lib.hid
  ⟨HL.o.kept (K.o.trans o),Q7 Z.o (K.o.trans o).size,Q1.o.kept o V.o,fun b a=>Q6 (V.o b a) o.size,LH,As.ofBlk v rfl,YE u,PE,by decide⟩
 have ae:=hZ (K.o.trans o);change Cl _ _ _ ((q.alloc (.cells (AI (Fv f9) IQ).toArray 72)).alloc (.cells (Vh q.heap.size).toArray 42)) _;rw[<-B,<-L];clear B L o u v H3 Q1 V K K1 K2 K3;refine Calls.mono (IB F p T0 DH _ _ I R.o) ?_;rw[KL];rintro e P ⟨n,O,rfl,f,c,i,_⟩;have R1:=hZ f;have d:=hZ c;have W:=hZ i;clear f c i
 go_wp2_with(first
  |(go_at_call 31;refine(Ph _ _).mono ?_;rintro e l ⟨rfl,h⟩;(first|(have S3:Hid (Chg P l []):=hZ (S2.o.trans h))|(have S2:Hid (Chg P l []):=hZ (S1.o.trans h))|(have S1:Hid (Chg P l []):=hZ h));clear h))
 obtain⟨r,M⟩:∃x,x=l.heap.size:=⟨_,rfl⟩
 obtain⟨j,C⟩:∃y,y=(l.alloc (.cells (Ad [kA]).toArray 9)).alloc (.cells (UA l.heap.size).toArray 72):=⟨_,rfl⟩
 have z:Chg P j []:=by rw[C];exact(S3.o.alloc _).alloc _
 have u:Ac j r (Ad [kA]) 9:=by rw[C,M];exact(Ac.new _ _ _).alloc _
 have v:Ac j (r+1) (UA r) 72:=by rw[C,M];exact BD _ _ _ _ _ rfl (by simp)
 have af:Hid (DX j (.slice (some ⟨r+1,0,none⟩) 5 5) Ln):=hZ (Y1 u v);have t:Hid (Yc j F p T0 DH (.slice (some ⟨A+1,0,none⟩) 2 2) (Vh A)):=hZ (R.o.kept (W.o.trans z));have J:=hZ (ae.o.trans (W.o.trans z));have m:Hid (CG j n O T1/\∀b,n b->b<j.heap.size):=hZ ⟨R1.o.kept z d.o,fun b a=>Q6 (d.o b a) z.size⟩;change Cl _ _ _ ((l.alloc (.cells (Ad [kA]).toArray 9)).alloc (.cells (UA l.heap.size).toArray 72)) _;rw[<-C,<-M];clear C M z u v S1 S2 S3 R1 d W R ae;refine Calls.mono (Xn F p T0 DH _ _ j t.o) ?_;rw[KL];rintro e Y al;obtain⟨N,ys,G,rfl,f,c⟩:∃N xs G,e= .returned (.tuple #[N,.nilIface])/\EW j Y (Fa.map CW.toI) N xs G/\Chg j Y []:=al
 have X:=IB n O T1 (Fa.map CW.toI) N ys Y ⟨HL.o.kept (J.o.trans c),Q7 Z.o (J.o.trans c).size,m.o.1.kept c m.o.2,fun b a=>Q6 (m.o.2 b a) c.size,Yp,f.row,f.ops.toIn,TS,by decide⟩;obtain⟨U,hU⟩:=T5;rw[hU]at X;have ab:=hZ X;have d:=hZ c;obtain⟨sa,sc,rfl,_⟩:=f.row.form;clear f c X hU;go_wp2_with fail
 refine ab.o.mono ?_;rintro e k ⟨Q,ah,rfl,f,c,i,_⟩;have ad:Hid (CG k n O T1/\∀b,n b->b<k.heap.size):=hZ ⟨m.o.1.kept (d.o.trans i) m.o.2,fun b a=>Q6 (m.o.2 b a) (d.o.trans i).size⟩;have S:Hid (CG k F p T0/\∀b,F b->b<k.heap.size):=hZ ⟨t.o.tree.kept (d.o.trans i) t.o.lt,fun b a=>Q6 (t.o.lt b a) (d.o.trans i).size⟩;have T:Hid (CG k Q ah T0/\∀b,Q b->b<k.heap.size):=hZ ⟨f,c⟩;have ak:Hid (DX k (.slice (some ⟨r+1,0,none⟩) 5 5) Ln):=hZ (af.o.kept (d.o.trans i));have H6:=hZ (J.o.trans (d.o.trans i));clear f c i ab af t J m d
 go_wp2_with(first
  |(go_at_call 38;refine(TY n O T1 k ad.o.1 ad.o.2 (by decide)).mono ?_;rintro e w7 ⟨g7,am,G7,an,rfl,D,E,H,k4,k5⟩;have aj:Hid (DX w7 _ Ln):=hZ (PW D E k5 rfl);have aa:=hZ H;clear D E H k4 k5)
  |(go_at_call 37;refine(Rf Ln _ _ w7 aj.o (ak.o.kept aa.o) (by decide) V3).mono ?_;rintro e w8 ⟨rfl,h8⟩;have s:=hZ (aa.o.trans h8);clear h8)
  |(go_at_call 23;refine(OL Q F ah p T0 w8 (T.o.1.kept s.o T.o.2) (S.o.1.kept s.o S.o.2) (fun b a=>Q6 (T.o.2 b a) s.o.size) (fun b a=>Q6 (S.o.2 b a) s.o.size) LH).mono ?_;rintro e w9 ⟨rfl,h9⟩;have ai:=hZ (s.o.trans h9);clear h9))
 go_ret
 exact⟨rfl,H6.o.trans ai.o⟩
theorem E0{P:Program}{c:Func}{r p q:Tmp}{b:Ti}(h:c.results=#[.tmp r,.cell p b,.tmp q])(a:Array Vl)(w:Wl)(g:Nat)(T:Ti)(cs:List Vl)(d:TypeDesc)(i:a.getD p undef= .pointer (some ⟨g,0,none⟩))(e:Ac w g cs T)(l:P.underlying b=some d)(f:(match d with| .struct _| .array _ _=>true|_=>false)=true)(hi:(P.info? b).map (·.size)=some cs.length):
  (results c a).run P w= .ok (.tuple #[a.getD r undef,.agg cs.toArray,a.getD q undef]) w:=by
 have j:a[p]?.getD undef= .pointer (some ⟨g,0,none⟩):=by simpa using i
 have k:=run_loadVar_row (P:=P) w g T b cs.toArray (0,0) d e l f (by simpa using hi);simp[results,h,j,asAddr,k]
theorem Gj{P:Program}{o:Oper}{a:Act}{w:Wl}{Q:Exit->Act->Wl->Prop}{K:Act->Wl->Prop}(c:Ti)(x y:Operand)(i:o.op= .store c x y)(g:Nat)(b:List Vl)(k:a.eval x= .pointer (some ⟨g,0,none⟩))(l:a.eval y= .agg b.toArray)(T:Ti)(cs:List Vl)(d:Ac w g cs T)(hi:(P.info? c).map (·.size)=some b.length)(f:cs.length=b.length)(e:∀v∈b,v.oneCell'=true)(h:∀w',w'.heap.size=w.heap.size->Ac w' g b T->Chg w w' [g]->K (a.put o.dst undef) w'):Oper.wp P o a w K Q:=
 wp_store_row c x y i g b.toArray k l T cs.toArray d (by simpa using hi) (by simpa using f) (Array.all_eq_true_iff_forall_mem.2 fun v j=>e v (by simpa using j))
  (h _ (by simp) (d.row b) ((Chg.refl _ _).setRow _ _ (by simp)))
def ZT(r:Option Tr)(w:Wl)(e:Ending)(w':Wl):Prop:=(match r with
 |some t=>∃(F a:Nat->Prop) (cs:List Vl) (c:Nat),e= .returned (.tuple #[.pointer (some ⟨c,0,none⟩),.agg cs.toArray,.bool true])/\AL w' F t cs/\(∀b,F b->w.heap.size<=b/\b<w'.heap.size)/\CG w' a c t/\(∀b,a b->w.heap.size<=b/\b<w'.heap.size)/\Bt t
 |none=>e= .returned (.tuple #[.pointer none,.agg zV.toArray,.bool false]))/\Chg w w' []
theorem E7{w:Wl}{F:Nat->Prop}{t:Tr}{cs:List Vl}(h:AL w F t cs):(∀u∈cs,u.oneCell'=true)/\cs.length=6:=by
 obtain⟨c,d,a,b,ys,rfl,_⟩:=h.uni;exact⟨Mz _ _ _ _ _ _ _ _ _ _,rfl⟩
theorem Ya:∀u∈zV,u.oneCell'=true:=Mz 0 false 0 ⟨#[]⟩ none none 0 0 0 0
structure KR(w4:Wl)(R B:Nat)(cs:List Vl)(T:Ti)(s:Nat)(V:Nat->Vl->Prop)(d:Nat->Bool)(f:Nat->Vl)(w:Wl):Prop where
 chg:Chg w4 w [R]
 src:Ac w B cs T
 ne:B≠R
 old:∃ds,Ac w R ds T/\ds.length=cs.length
 dst:d s=true->Ac w R cs T
 vals:∀j,d j=true->V j (f j)
theorem KR.put{b:Wl}{R B:Nat}{cs:List Vl}{T:Ti}{s:Nat}{V:Nat->Vl->Prop}{d:Nat->Bool}{f:Nat->Vl}{w:Wl}{j:Nat}{y:Vl}(h:KR b R B cs T s V d f w)(c:j≠s)(g:V j y):KR b R B cs T s V (BA d j) (Eb f j y) w:=
 ⟨h.chg,h.src,h.ne,h.old,by rw[An d (Ne.symm c)];exact h.dst,fun k a=>by
  by_cases e:k=j
  .subst e;rw[Bf];exact g
  .rw[AA f y e];rw[An d e]at a;exact h.vals k a⟩
theorem KR.stored{g:Wl}{R B:Nat}{cs:List Vl}{T:Ti}{s:Nat}{V:Nat->Vl->Prop}{d:Nat->Bool}{f:Nat->Vl}{w w':Wl}(h:KR g R B cs T s V d f w)(i:V s undef)(a:Ac w' R cs T)(b:Chg w w' [R]):KR g R B cs T s V (BA d s) (Eb f s undef) w':=
 ⟨h.chg.trans b,h.src.kept b (by simpa using h.ne),h.ne,⟨cs,a,rfl⟩,fun _=>a,fun k c=>by
  by_cases e:k=s
  .subst e;rw[Bf];exact i
  .rw[AA f _ e];rw[An d e]at c;exact h.vals k c⟩
def aj(cs:List Vl)(j:Nat)(y:Vl):Prop:=match j with
 |0=>y= .agg cs.toArray
 |1=>y= .pointer none
 |3=>y= .bool false
 |_=>True
def WS(a:Nat)(cs:List Vl)(j:Nat)(y:Vl):Prop:=match j with
 |0=>y= .pointer (some ⟨a,0,none⟩)
 |1=>y= .agg cs.toArray
 |2=>y= .nilIface
 |3=>y= .bool true
 |4=>y= .bool true
 |5=>y= .pointer (some ⟨a,0,none⟩)
 |6=>y= .bool true
 |7=>y= .bool true
 |8=>y= .pointer (some ⟨a,0,none⟩)
 |10=>y= .bool true
 |_=>True
theorem WL(l:List Ap)(sl:Vl)(xs:List Vl)(w:Wl)(hR:As w sl 6 l.length xs)(hS:Az w l xs)(f:∀s∈l,Di s)(Y:l.length<=4294967296):
  Cl prog 12 #[sl] w (ZT (AS l) w):=by
 obtain⟨sa,sc,rfl,aL,aN⟩:=hR.form;have Q:Hid (∀z,Chg w z []->Cl prog 41 #[.slice sa l.length sc] z (ZY (AS l) z)):=hZ fun z hx=>Vq l _ xs z (hR.kept hx) (Az.kept hx hS) f Y
 have N:Hid (∀z,Chg w z []->Cl prog 28 #[.slice sa l.length sc] z (BO l z)):=hZ fun z hx=>Fk l _ xs z (hR.kept hx) (Az.kept hx hS) f Y
 have af:Hid (∀t,AS l=some t->Bt t):=hZ fun t ht=>FD f ht
 have e0:(if l.length<=65536 then CA l else none)=AS l:=rfl;obtain⟨n,hn⟩:∃n,n=l.length:=⟨_,rfl⟩
 unfold BO at N;rw[e0]at N;rw[<-hn]at Q N|-;clear hR hS f Y aN aL hn e0
 cases V:AS l with
 |none=>
  rw[V]at Q;clear N af V;go_enter func12,ntmps12
  go_wp2_with fail
  refine(Q.o _ (by exact cg cR)).mono ?_;rintro e j ⟨rfl,A⟩;have H1:Hid (Chg w j []):=hZ (((Chg.refl w []).alloc _).trans A);have I:Hid (Ac j w.heap.size zV 29):=hZ ((BD w _ zV _ _ rfl rfl).kept A);obtain⟨cs,O⟩:∃cs,cs=zV:=⟨_,rfl⟩
  have D:Hid ((prog.info? 29).map (·.size)=some cs.length):=hZ (by rw[O];exact A9);have P:Hid (∀u∈cs,u.oneCell'=true):=hZ (by rw[O];exact Ya);have R:Hid (zV.length=cs.length):=hZ (by rw[O]);have aE:=hZ O;rw[<-O];clear A O;go_wp2_with(refine Ae rfl _ _ _ rfl j.heap.size cs (by rfl) (by rfl) 29 zV (BD _ _ zV _ _ rfl rfl) D.o R.o P.o ?_;intro w2 ar U X;have ab:=hZ U;have H:Hid (Chg j w2 []):=hZ (Chg.step (b:=_) (by exact cg cR) X (fun i hi Y=>by simp at hi;omega));clear ar U X)
  obtain⟨m,r⟩:∃y,y=World.drew w2:=⟨_,rfl⟩
  have an:=hZ r;have H5:Hid (Chg w m []):=by rw[r];exact hZ (H1.o.trans H.o).drew
  have ai:Hid (Ac m w.heap.size zV 29):=by rw[r];exact hZ (I.o.kept H.o).drew
  have am:Hid (Ac m j.heap.size cs 29):=by rw[r];exact hZ ab.o.drew
  have ah:Hid (j.heap.size≠w.heap.size):=hZ (by have:=I.o.lt;omega);clear r;refine wp_region_any (by kernel_rfl) ?_;change wpAny _ _ _ _ _ _ _ (World.drew _);rw[<-an.o];refine Dg _ (KR m w.heap.size j.heap.size cs 29 2 (aj cs)) (by kernel_rfl) ?_ ?_ _ ?_
  .intro ii op a wa dd d g aM q aJ c K k
   match ii,d with
   |0,d=>
    obtain rfl:=Q5 d;have J:a.tmps.getD 5 undef= .pointer (some ⟨j.heap.size,0,none⟩):=g.at 5 (by kernel_rfl);rw[Qr (by simp[Region.wanted])];refine Bd _ _ rfl _ J 29 _ c.src _ underlying29 rfl D.o ?_;exact k _ _ (by simp) (c.put (by decide) (by simp[aj]))
   |1,d=>
    obtain rfl:=Q5 d;go_simp
    exact k _ _ (by simp) (c.put (by decide) (by simp[aj]))
   |2,d=>
    obtain rfl:=Q5 d;have J:a.tmps.getD 3 undef= .pointer (some ⟨w.heap.size,0,none⟩):=g.at 3 (by kernel_rfl);have hs:a.tmps.getD 16 undef= .agg cs.toArray:=c.vals 0 (q ⟨0,.data⟩ (by simp) rfl);obtain⟨ds,f,aq⟩:=c.old;rw[Qr (by simp[Region.wanted])];refine Gj _ _ _ rfl w.heap.size cs J hs 29 ds f D.o aq P.o ?_;intro w' _ ao ap;exact k undef _ (fun _=>rfl) (c.stored trivial ao ap)
   |3,d=>
    obtain rfl:=Q5 d;go_simp
    exact k _ _ (by simp) (c.put (by decide) (by simp[aj]))
   |_+4,d=>exact absurd d (by simp)
  .intro a wR dd g G c
   have T:=c.dst (G 2 (by decide));have B:a.tmps.getD 2 undef= .pointer none:=c.vals 1 (G 1 (by decide));have E:a.tmps.getD 4 undef= .bool false:=c.vals 3 (G 3 (by decide));have ak:=hZ T;have al:Hid (Chg w wR []):=hZ (H5.o.fresh c.chg (fun i hi=>by simp at hi;omega));clear c G T;have v:=g.form' [16,2,4] (by kernel_rfl);have W:=g.defers;obtain⟨o,df⟩:=a;clear g
   dsimp only[Act.put]at v W B E
   simp only[List.foldl_cons,List.foldl_nil]at v;obtain⟨u16,av⟩:∃x,x=o.getD 16 undef:=⟨_,rfl⟩
   obtain⟨u2,L⟩:∃x,x=o.getD 2 undef:=⟨_,rfl⟩
   obtain⟨u4,M⟩:∃x,x=o.getD 4 undef:=⟨_,rfl⟩
   rw[<-av,<-L,<-M]at v;rw[<-L]at B;rw[<-M]at E;clear av L M;simp only[List.setIfInBounds_toArray,List.set_cons_zero,List.set_cons_succ]at v;subst v;subst W;subst B;subst E;go_wp2_with fail
   refine bodyPost_ret (E0 rfl _ _ w.heap.size 29 cs _ rfl ak.o underlying29 rfl D.o) rfl ?_;rw[aE.o];exact⟨rfl,al.o⟩
  .exact⟨Chg.refl _ _,am.o,ah.o,⟨zV,ai.o,R.o⟩,(fun e=>by cases e),fun _ e=>by cases e⟩
 |some t=>
  rw[V]at Q N;have aF:Hid (Bt t):=hZ (af.o t V);clear af V;go_enter func12,ntmps12
  go_wp2_with fail
  refine(Q.o _ (by exact cg cR)).mono ?_;rintro e j ⟨⟨F,cs,rfl,Z,g,hw⟩,A⟩;have H1:Hid (Chg w j []):=hZ (((Chg.refl w []).alloc _).trans A);have I:Hid (Ac j w.heap.size zV 29):=hZ ((BD w _ zV _ _ rfl rfl).kept A);have au:=hZ Z;have ae:Hid (∀b,F b->w.heap.size<b/\b<j.heap.size):=hZ (fun b f=>by have:=g b f;simp at this;omega);have D:Hid ((prog.info? 29).map (·.size)=some cs.length):=hZ (by rw[(E7 Z).2];exact A9);have P:=hZ (E7 Z).1;have R:Hid (zV.length=cs.length):=hZ (by rw[(E7 Z).2];rfl);clear A Z g hw
  go_wp2_with(first
   |(refine Ae rfl _ _ _ rfl j.heap.size cs (by rfl) (by rfl) 29 zV (BD _ _ zV _ _ rfl rfl) D.o R.o P.o ?_;intro w2 ar U X;have ab:=hZ U;have H:Hid (Chg j w2 []):=hZ (Chg.step (b:=_) (by exact cg cR) X (fun i hi Y=>by simp at hi;omega));clear ar U X)
   |(go_at_call 28;refine(N.o w2 (H1.o.trans H.o)).mono ?_;rintro e w3 ⟨⟨Fn,C,rfl,k1,k2,k3,k4,k5⟩,k6⟩;have K1:=hZ k1;have K2:=hZ k2;have K4:=hZ k4;have K5:=hZ k5;have K6:=hZ k6;clear k1 k2 k3 k4 k5 k6))
  obtain⟨m,r⟩:∃y,y=World.drew w3:=⟨_,rfl⟩
  have an:=hZ r;have S:Chg j m []:=by rw[r];exact(H.o.trans K6.o).drew
  have H5:Hid (Chg w m []):=hZ (H1.o.trans S);have ai:Hid (Ac m w.heap.size zV 29):=hZ (I.o.kept S);have am:Hid (Ac m j.heap.size cs 29):=by rw[r];exact hZ (ab.o.kept K6.o).drew
  have ah:Hid (j.heap.size≠w.heap.size):=hZ (by have:=I.o.lt;omega);have aI:Hid (AL m F t cs):=hZ (AL.kept (S.keepsF (fun b f=>(ae.o b f).2)) (fun _ h=>h) _ _ au.o);have aG:Hid (CG m Fn C t):=by rw[r];exact hZ (K1.o.kept (Chg.refl w3 []).drew K2.o)
  have ag:Hid (∀b,Fn b->w.heap.size<b/\b<m.heap.size):=hZ (fun b f=>by have A:=K4.o b f;have B:=K2.o b f;have h3:=H.o.size;have E:=I.o.lt;rw[r];exact⟨by omega,B⟩);have aH:Hid (w.heap.size<C):=hZ (by have A:=K5.o;have h3:=H.o.size;have E:=I.o.lt;omega);have ad:Hid (∀b,F b->w.heap.size<b/\b<m.heap.size):=hZ (fun b f=>by have A:=ae.o b f;have B:=S.size;omega);clear r S K1 K2 K4 K5 K6 au ae;refine wp_region_any (by kernel_rfl) ?_;change wpAny _ _ _ _ _ _ _ (World.drew _);rw[<-an.o];refine Dg _ (KR m w.heap.size j.heap.size cs 29 9 (WS C cs)) (by kernel_rfl) ?_ ?_ _ ?_
  .intro ii op a wa dd d g aM q aJ c K k
   match ii,d with
   |0,d=>
    obtain rfl:=Q5 d;have h7:a.tmps.getD 7 undef= .pointer (some ⟨C,0,none⟩):=g.at 7 (by kernel_rfl);go_simp
    exact k _ _ (by simp) (c.put (by decide) (by simp[WS]))
   |1,d=>
    obtain rfl:=Q5 d;have J:a.tmps.getD 5 undef= .pointer (some ⟨j.heap.size,0,none⟩):=g.at 5 (by kernel_rfl);rw[Qr (by simp[Region.wanted])];refine Bd _ _ rfl _ J 29 _ c.src _ underlying29 rfl D.o ?_;exact k _ _ (by simp) (c.put (by decide) (by simp[WS]))
   |2,d=>
    obtain rfl:=Q5 d;have h8:a.tmps.getD 8 undef= .nilIface:=g.at 8 (by kernel_rfl);go_simp
    exact k _ _ (by simp) (c.put (by decide) (by simp[WS]))
   |3,d=>
    obtain rfl:=Q5 d;have aP:a.tmps.getD 24 undef= .nilIface:=c.vals 2 (q ⟨2,.data⟩ (by simp) rfl);go_simp
    exact k _ _ (by simp) (c.put (by decide) (by simp[WS]))
   |4,d=>
    obtain rfl:=Q5 d;have aQ:a.tmps.getD 25 undef= .bool true:=c.vals 3 (q ⟨3,.data⟩ (by simp) rfl);go_simp
    exact k _ _ (by simp) (c.put (by decide) (by simp[WS]))
   |5,d=>
    obtain rfl:=Q5 d;have h7:a.tmps.getD 7 undef= .pointer (some ⟨C,0,none⟩):=g.at 7 (by kernel_rfl);rw[Qr (Cw rfl (by rfl) (c.vals 4 (q ⟨4,.guard⟩ (by simp) rfl)))];go_simp
    exact k _ _ (by simp) (c.put (by decide) (by simp[WS]))
   |6,d=>
    obtain rfl:=Q5 d;have aS:a.tmps.getD 27 undef= .pointer (some ⟨C,0,none⟩):=c.vals 5 (q ⟨5,.data⟩ (by simp) rfl);rw[Qr (Cw rfl (by rfl) (c.vals 4 (q ⟨4,.guard⟩ (by simp) rfl)))];go_simp
    exact k _ _ (by simp) (c.put (by decide) (by simp[WS]))
   |7,d=>
    obtain rfl:=Q5 d;have aR:a.tmps.getD 26 undef= .bool true:=c.vals 4 (q ⟨4,.data⟩ (by simp) rfl);have aT:a.tmps.getD 28 undef= .bool true:=c.vals 6 (q ⟨6,.data⟩ (by simp) rfl);go_simp
    exact k _ _ (by simp) (c.put (by decide) (by simp[WS]))
   |8,d=>
    obtain rfl:=Q5 d;have aO:a.tmps.getD 22 undef= .pointer (some ⟨C,0,none⟩):=c.vals 0 (q ⟨0,.data⟩ (by simp) rfl);go_simp
    exact k _ _ (by simp) (c.put (by decide) (by simp[WS]))
   |9,d=>
    obtain rfl:=Q5 d;have J:a.tmps.getD 3 undef= .pointer (some ⟨w.heap.size,0,none⟩):=g.at 3 (by kernel_rfl);have hs:a.tmps.getD 23 undef= .agg cs.toArray:=c.vals 1 (q ⟨1,.data⟩ (by simp) rfl);obtain⟨ds,f,aq⟩:=c.old;rw[Qr (by simp[Region.wanted])];refine Gj _ _ _ rfl w.heap.size cs J hs 29 ds f D.o aq P.o ?_;intro w' _ ao ap;exact k undef _ (fun _=>rfl) (c.stored trivial ao ap)
   |10,d=>
    obtain rfl:=Q5 d;have aU:a.tmps.getD 29 undef= .bool true:=c.vals 7 (q ⟨7,.data⟩ (by simp) rfl);go_simp
    exact k _ _ (by simp) (c.put (by decide) (by simp[WS]))
   |_+11,d=>exact absurd d (by simp)
  .intro a wR dd g G c
   have T:=c.dst (G 9 (by decide));have B:a.tmps.getD 2 undef= .pointer (some ⟨C,0,none⟩):=c.vals 8 (G 8 (by decide));have E:a.tmps.getD 4 undef= .bool true:=c.vals 10 (G 10 (by decide));have ak:=hZ T;have aa:=hZ c.chg;have al:Hid (Chg w wR []):=hZ (H5.o.fresh c.chg (fun i hi=>by simp at hi;omega));clear c G T;have v:=g.form' [22,23,24,25,26,27,28,29,2,4] (by kernel_rfl);have W:=g.defers;obtain⟨o,df⟩:=a;clear g
   dsimp only[Act.put]at v W B E
   simp only[List.foldl_cons,List.foldl_nil]at v;obtain⟨u22,aw⟩:∃x,x=o.getD 22 undef:=⟨_,rfl⟩
   obtain⟨u23,ax⟩:∃x,x=o.getD 23 undef:=⟨_,rfl⟩
   obtain⟨u24,ay⟩:∃x,x=o.getD 24 undef:=⟨_,rfl⟩
   obtain⟨u25,az⟩:∃x,x=o.getD 25 undef:=⟨_,rfl⟩
   obtain⟨u26,aA⟩:∃x,x=o.getD 26 undef:=⟨_,rfl⟩
   obtain⟨u27,aB⟩:∃x,x=o.getD 27 undef:=⟨_,rfl⟩
   obtain⟨u28,aC⟩:∃x,x=o.getD 28 undef:=⟨_,rfl⟩
   obtain⟨u29,aD⟩:∃x,x=o.getD 29 undef:=⟨_,rfl⟩
   obtain⟨u2,L⟩:∃x,x=o.getD 2 undef:=⟨_,rfl⟩
   obtain⟨u4,M⟩:∃x,x=o.getD 4 undef:=⟨_,rfl⟩
   rw[<-aw,<-ax,<-ay,<-az,<-aA,<-aB,<-aC,<-aD,<-L,<-M]at v;rw[<-L]at B;rw[<-M]at E;clear aw ax ay az aA aB aC aD L M;simp only[List.setIfInBounds_toArray,List.set_cons_zero,List.set_cons_succ]at v;subst v;subst W;subst B;subst E;go_wp2_with fail
   refine bodyPost_ret (E0 rfl _ _ w.heap.size 29 cs _ rfl ak.o underlying29 rfl D.o) rfl ?_;have hz:=aa.o.size;obtain⟨tv,t1,t2,t3⟩:=aG.o;have aK:BZ Fn m wR:=aa.o.keepsF (fun b f=>(ag.o b f).2) (fun b f hm=>by simp at f;subst f;have:=(ag.o _ hm).1;omega);refine⟨⟨F,Fn,cs,C,rfl,AL.kept (aa.o.keepsF (fun b f=>(ad.o b f).2) (fun b f hm=>by simp at f;subst f;have:=(ad.o _ hm).1;omega)) (fun _ h=>h) _ _ aI.o,fun b f=>by have:=ad.o b f;omega,⟨tv, ?_,Af.kept aK (fun _ h=>h) _ _ t2,by omega⟩,fun b f=>by have:=ag.o b f;omega,aF.o⟩,al.o⟩;rw[aa.o.cell (p:=⟨C,0,none⟩) t3 (by have:=aH.o;simp;omega)];exact t1
  .exact⟨Chg.refl _ _,am.o,ah.o,⟨zV,ai.o,R.o⟩,(fun e=>by cases e),fun _ e=>by cases e⟩
def Y2:Vl:= .agg #[.int .i64 0,.string ⟨#[]⟩,.string ⟨#[]⟩,.slice none 0 0]
theorem WC(n:Nat)(w:Wl)(v:n<=4294967296):Cl prog 48 #[.slice none 0 0,.int .i64 n] w fun e w'=>
  ∃q a,e= .returned (.slice q 0 a)/\Ba w' (.slice q 0 a) 42 4 0 []/\Chg w w' []/\(∀g,(Vl.slice q 0 a).ownBlock=some g->w.heap.size<=g):=by
 have x:IntKind.i64.wrap ((n:Int)-0)=n:=by rw[Int.sub_zero];exact IntWalk.i64_in _ (by omega)
 have z:IntKind.i64.wrap (n:Int)=n:=IntWalk.i64_in _ (by omega);by_cases r:0<n
 .have u:(0:Int)<(n:Int):=by omega
  obtain⟨i,hi,l,k,h⟩:=info_parts JK;have b:=fun t=>Lib.run_append_nil_zeros (P:=prog) w 23 3 t 42 i Y2 .i64 .i64 underlying23 underlying3 hi l n r (by rw[k];decide) (by omega) (by rw[h];omega)
  have s:=grownCap_ge w n 0 42;have j:=grownCap_le_maxLen w n 0 42 (by unfold maxLen;omega)
  generalize grownCap w n 0 42=a at b s j
  obtain⟨w2,c⟩:∃y,y=w.drew.alloc (.cells (Builtin.zeroCells Y2.cells n++Builtin.zeroCells Y2.cells (a-n)) 42):=⟨_,rfl⟩
  rw[<-c]at b
  have f:w2.heap[w.heap.size]? =some (.cells (Builtin.zeroCells Y2.cells n++Builtin.zeroCells Y2.cells (a-n)) 42 (0,0)):=by
   rw[c];have:=Ac.new w.drew (Builtin.zeroCells Y2.cells n++Builtin.zeroCells Y2.cells (a-n)).toList 42;unfold Ac at this;rwa[Array.toArray_toList]at this
  have o:Hid (Ba w2 (.slice (some ⟨w.heap.size,0,none⟩) 0 a) 42 4 0 []):=by
   refine hZ ⟨rfl,.inr ⟨w.heap.size,a,Builtin.zeroCells Y2.cells n++Builtin.zeroCells Y2.cells (a-n),rfl,Nat.zero_le _,f,Nat.zero_le _,j, ?_,by simp⟩⟩;rw[Array.size_append,size_zeroCells,size_zeroCells]
   show n*4+(a-n)*4=a*4
   omega
  have m:Hid (Chg w w2 []):=by rw[c];exact hZ ((Chg.refl w []).drew.alloc _)
  have p:=hZ b;clear b c hi l k h f;go_enter func48,ntmps48
  go_wp2_with((at_builtin;refine Lib.wpList_append_run _ rfl _ _ _ _ rfl _ _ rfl rfl _ _ (p.o _) ?_))
  go_ret
  exact⟨some ⟨w.heap.size,0,none⟩,a,rfl,o.o,m.o,fun g d=>by simp[Vl.ownBlock]at d;omega⟩
 .obtain rfl:n=0:=by omega
  go_enter func48,ntmps48
  go_wp2_with fail
  go_ret
  exact⟨none,0,rfl,Ba.nil _ _ _,Chg.refl _ _,fun g d=>by cases d⟩
theorem SV(B:Nat)(J K:Vl)(a b:Nat)(us vs:List Vl)(w:Wl)(j:Ac w B [J,K] 23)(s:As w J 4 a us)(t:As w K 4 b vs)(C:∀u∈us,u.oneCell'=true)(D:∀u∈vs,u.oneCell'=true)(hn:a<=65536)(hm:b<=65536):
  Cl prog 22 #[.slice (some ⟨B,0,none⟩) 2 2] w fun e w'=>∃q c,e= .returned (.slice q (a+b) c)/\As w' (.slice q (a+b) c) 4 (a+b) (us++vs)/\Chg w w' []:=by
 obtain⟨y,ac,rfl,_,E⟩:=s.form;obtain⟨p,r,rfl,_,F⟩:=t.form;have z:w.cell? ⟨B,0,none⟩=some (.slice y a ac):=j.cell 0;have c1:w.cell? ⟨B,1,none⟩=some (.slice p b r):=j.cell 1;have L:=hZ s;have N:=hZ t;have O:=hZ j;have R:=hZ C;have S:=hZ D;have M:=hZ E;have P:=hZ F;have Q:Hid (Cl prog 48 #[.slice none 0 0,.int .i64 ((a:Int)+b)] w fun e w'=>∃q c,e= .returned (.slice q 0 c)/\Ba w' (.slice q 0 c) 42 4 0 []/\Chg w w' []/\(∀g,(Vl.slice q 0 c).ownBlock=some g->w.heap.size<=g)):=hZ (by have:=WC (a+b) w (by omega);rwa[Int.natCast_add]at this);clear s t j C D E F;go_enter func22,ntmps22
 go_wp2_with fail
 refine wp_loop_rounds 3 ?_;rw[rounds_succ];go_wp2_with fail
 rw[rounds_succ];go_wp2_with fail
 rw[rounds_succ];go_wp2_with fail
 refine Q.o.mono ?_;rintro e w1 ⟨q,c,rfl,G,k,H⟩;have T:=hZ G;have m:=hZ k;have v:=hZ H;have Z:=k.keeps z;have d1:=k.keeps c1;clear G k H z c1;go_wp2_with fail
 refine wp_loop_rounds 3 ?_;rw[rounds_succ];go_wp2_with(refine Fs rfl _ _ 23 rfl 42 _ 4 64 (by decide) underlying23 JK rfl (.slice q 0 c) 0 [] (by rfl) T.o a us (.slice y a ac) (by rfl) (L.o.kept m.o) R.o (by omega) (by omega) ?_;intro I A w2 f i l;have n:=hZ f;have o:Hid (Chg w w2 []):=hZ (m.o.fresh i (fun g d=>v.o g (by simpa using d)));have x:Hid (∀g,(Vl.slice I (0+a) A).ownBlock=some g->w.heap.size<=g):=hZ (fun g d=>by rcases l g d with h|h;exact v.o g h;have:=m.o.size;omega);have f1:w2.cell? ⟨B,1,none⟩=some (.slice p b r):=o.o.keeps (O.o.cell 1);clear f i l)
 rw[Nat.zero_add]at n x;rw[List.nil_append]at n;rw[rounds_succ];go_wp2_with(refine Fs rfl _ _ 23 rfl 42 _ 4 64 (by decide) underlying23 JK rfl (.slice I a A) a us (by rfl) n.o b vs (.slice p b r) (by rfl) (N.o.kept o.o) S.o (by omega) (by omega) ?_;intro X W Y f i l;have U:=hZ f;have V:Hid (Chg w Y []):=hZ (o.o.fresh i (fun g d=>x.o g (by simpa using d)));clear f i l)
 rw[rounds_succ];go_wp2_with fail
 go_ret
 exact⟨X,W,rfl,U.o.rowC (by rw[Qk,M.o,P.o];omega),V.o⟩
theorem J5{P:Program}(w:Wl){t a:Ti}{g:Array (String×Ti)}(xs ys:Array Vl)(f:P.underlying t=some (.interface g))(c:(P.info? a).map (·.comparable)=some true):
  (binOp .eql t (.iface a (.agg xs)) (.iface a (.agg ys))).run P w=((Op.equalIn 9999 a (.agg xs) (.agg ys)).run P w).andThen fun b w'=> .ok (.bool b) w':=by
 cases hi:P.info? a with
 |none=>simp[hi]at c
 |some i=>
  have e:i.comparable=true:=by simpa[hi]using c
  have h:∀d:Nat,(Op.equalIn (d+1) t (.iface a (.agg xs)) (.iface a (.agg ys))).run P w=(Op.equalIn d a (.agg xs) (.agg ys)).run P w:=fun d=>by
   rw[Op.equalIn];simp[run_underlying f,typeInfo,hi,e]
  simp only[binOp];simp[Op.equal,Op.maxDepth,h 9999]
theorem US(k i:Int)(w:Wl):(Op.equalIn 9999 52 (.agg #[.int .i64 k,.int .i64 i]) (.agg #[.int .i64 k,.int .i64 i])).run prog w= .ok true w:=by
 simp[go_sem]
theorem Wt(k i:Int)(w:Wl):(binOp .eql 35 (Hk k i) (Hk k i)).run prog w= .ok (.bool true) w:=by
 unfold Hk;rw[J5 w _ _ underlying35 (by kernel_rfl),US];rfl
theorem PI(x:Vl)(w:Wl):(Instr.typeAssert (.iface 52 x) 35 52 true).run prog w= .ok (.tuple #[x,.bool true]) w:=by kernel_rfl
theorem UT(k i:Int)(w:Wl):(binOp .eql 52 (.agg #[.int .i64 k,.int .i64 i]) (.agg #[.int .i64 k,.int .i64 i])).run prog w= .ok (.bool true) w:=by
 simp[go_sem]
theorem Py:∀{l:List Bq} {t:Tr} {u:List CW} {j e i:Nat},BR t u j l= .no e i->j<=i/\i<j+l.length
 |[],t,u,j,e,i,h=>by simp[BR]at h
 |o::l,t,u,j,e,i,h=>by
  simp only[BR]at h
  cases a:Gz t o with
  |no x=>rw[a]at h;injection h with b c;simp only[Qj];omega
  |yes d v=>
   rw[a]at h;have:=Py h;simp only[Qj];omega
theorem T7.toB{o:Bq}(h:T7 o):ZL o:=⟨Q7 h.path (by decide),Q7 h.frm (by decide),h.steps⟩
structure UG(w:Wl)(so:Vl)(ops:List Bq)(xs:List Vl):Prop where
 row:As w so 4 ops.length xs
 at_:Cc w ops xs
 small:∀o∈ops,T7 o
 many:ops.length<=4294967296
theorem UG.kept{w w':Wl}{c:Vl}{b:List Bq}{xs:List Vl}(h:UG w c b xs)(a:Chg w w' []):UG w' c b xs:=
 ⟨h.row.kept a,Cc.kept a h.at_,h.small,h.many⟩
structure aq(w:Wl)(sl:Vl)(l:List Ap)(xs:List Vl):Prop where
 row:As w sl 6 l.length xs
 at_:Az w l xs
 small:∀s∈l,Di s
 many:l.length<=4294967296
theorem Tb(l:List Ap)(pa E:List Bq)(sl sa sb:Vl)(xs ys zs:List Vl)(w:Wl)(hL:Br w)(aD:10<=w.heap.size)(hS:aq w sl l xs)(hA:UG w sa pa ys)(hB:UG w sb E zs):
  Cl prog 5 #[sl,sa,sb] w (BU true w):=by
 have Y:=hZ (WL l sl xs w hS.row hS.at_ hS.small hS.many);have X:=hZ hL;have V:=hZ aD;have B:=hZ hA;have C:=hZ hB;obtain⟨a5,a6,rfl,_⟩:=hS.row.form;obtain⟨aa,ab,rfl,_⟩:=hA.row.form;obtain⟨R,S,rfl,_⟩:=hB.row.form;have aW:=hA.many;have aX:=hB.many;obtain⟨ln,aK⟩:∃n,n=l.length:=⟨_,rfl⟩
 obtain⟨h,aw⟩:∃n,n=pa.length:=⟨_,rfl⟩
 obtain⟨u,ax⟩:∃n,n=E.length:=⟨_,rfl⟩
 have O:=hZ aw;have Z:=hZ ax;rw[<-aK]at Y|-;rw[<-aw]at B aW|-;rw[<-ax]at C aX|-;clear hL aD hS hA hB aK aw ax
 cases aj:AS l with
 |none=>
  rw[aj]at Y;clear aj B C O Z;go_enter func5,ntmps5
  go_wp2_with fail
  refine Y.o.mono ?_;rintro e L ⟨rfl,s⟩;have H1:=hZ s;clear s
  go_wp2_with(first
   |(refine Ae rfl _ _ _ rfl L.heap.size zV (by rfl) (by rfl) 29 zV (BD _ _ zV _ _ rfl rfl) A9 rfl Ya ?_;intro w2 ah ag K;have N:Hid (Chg w w2 []):=hZ (H1.o.trans (Chg.step (b:=_) (by exact cg cR) K (fun i hi hl=>by simp at hi;omega)));clear ah ag K)
   |(go_at_call 13;refine(Ko w2 (X.o.kept N.o) (Q7 V.o N.o.size)).mono ?_;rintro e d ⟨rfl,P⟩;have c:=hZ (N.o.trans P);clear P))
  go_ret
  exact⟨rfl,c.o⟩
 |some t=>
  rw[aj]at Y;clear aj;by_cases aY:(65536:Int)<(h:Int)+(u:Int)
  .go_enter func5,ntmps5
   go_wp2_with fail
   refine Y.o.mono ?_;rintro e L ⟨⟨F,U,cs,T,rfl,D,_,_,_,_⟩,s⟩;have H1:=hZ s;have an:Hid ((prog.info? 29).map (·.size)=some cs.length):=hZ (by rw[(E7 D).2];exact A9);have ao:=hZ (E7 D).1;have au:Hid (zV.length=cs.length):=hZ (by rw[(E7 D).2];rfl);clear s D
   go_wp2_with(first
    |(refine Ae rfl _ _ _ rfl L.heap.size cs (by rfl) (by rfl) 29 zV (BD _ _ zV _ _ rfl rfl) an.o au.o ao.o ?_;intro w2 ah ag K;have N:Hid (Chg w w2 []):=hZ (H1.o.trans (Chg.step (b:=_) (by exact cg cR) K (fun i hi hl=>by simp at hi;omega)));clear ah ag K)
    |(go_at_call 13;refine(Ko w2 (X.o.kept N.o) (Q7 V.o N.o.size)).mono ?_;rintro e d ⟨rfl,P⟩;have c:=hZ (N.o.trans P);clear P))
   go_ret
   exact⟨rfl,c.o⟩
  .go_enter func5,ntmps5
   go_wp2_with fail
   refine Y.o.mono ?_;rintro e L ⟨⟨F,U,cs,T,rfl,D,_,hT,aE,aI⟩,s⟩;have H1:=hZ s;have HT:=hZ hT;have ai:Hid (∀b,U b->b<L.heap.size):=hZ (fun b Q=>(aE b Q).2);have am:=hZ aI;have an:Hid ((prog.info? 29).map (·.size)=some cs.length):=hZ (by rw[(E7 D).2];exact A9);have ao:=hZ (E7 D).1;have au:Hid (zV.length=cs.length):=hZ (by rw[(E7 D).2];rfl);clear s D hT aE aI;go_wp2_with(refine Ae rfl _ _ _ rfl L.heap.size cs (by rfl) (by rfl) 29 zV (BD _ _ zV _ _ rfl rfl) an.o au.o ao.o ?_;intro w2 ah ag K;have az:Hid (Chg L w2 []):=hZ (Chg.step (b:=_) (by exact cg cR) K (fun i hi hl=>by simp at hi;omega));clear ah ag K)
   have aU:Hid (Chg w w2 []):=hZ (H1.o.trans az.o);have aQ:Hid (Ac (w2.alloc (.cells #[.slice aa h ab,.slice R u S] 23)) w2.heap.size [.slice aa h ab,.slice R u S] 23):=hZ (BD _ _ _ _ _ rfl rfl);have ap:Hid (Chg w (w2.alloc (.cells #[.slice aa h ab,.slice R u S] 23)) []):=hZ (aU.o.alloc _);have aL:h<=65536:=by omega
   have aM:u<=65536:=by omega
   have A:As w (.slice aa h ab) 4 h ys:=by have:=B.o.row;rwa[<-O.o]at this
   have x:As w (.slice R u S) 4 u zs:=by have:=C.o.row;rwa[<-Z.o]at this
   refine(SV w2.heap.size _ _ h u ys zs _ aQ.o (A.kept ap.o) (x.kept ap.o) (Cc.one B.o.at_) (Cc.one C.o.at_) aL aM).mono ?_;rintro e d ⟨q,aC,rfl,c1,c2⟩;have c:Hid (Chg w d []):=hZ (ap.o.trans c2);have ad:Chg L d []:=(az.o.alloc _).trans c2;have av:(pa++E).length=h+u:=by rw[Qk,<-O.o,<-Z.o]
   have aT:Hid (Yc d U T t (pa++E) (.slice q (h+u) aC) (ys++zs)):=hZ ⟨X.o.kept c.o,Q7 V.o c.o.size,HT.o.kept ad ai.o,fun b Q=>Q6 (ai.o b Q) ad.size,am.o,by rw[av];exact c1,
    (Cc.kept c.o B.o.at_).append (Cc.kept c.o C.o.at_),fun o ho=>(Qf.1 ho).elim (B.o.small o) (C.o.small o),by rw[av];omega⟩
   have aS:Hid (∀a,Chg d a []->Yc a U T t pa (.slice aa h ab) ys):=hZ fun a g=>⟨X.o.kept (c.o.trans g),Q7 V.o (c.o.trans g).size,HT.o.kept (ad.trans g) ai.o,fun b Q=>Q6 (ai.o b Q) (ad.trans g).size,am.o,by rw[<-O.o];exact A.kept (c.o.trans g),Cc.kept (c.o.trans g) B.o.at_,B.o.small,by rw[<-O.o];exact aL⟩
   have aB:Hid (∀a f m v,Chg d a []->CG a f m v->(∀b,f b->b<a.heap.size)->Bt v->Yc a f m v E (.slice R u S) zs):=hZ fun a f m v g s h2 P=>⟨X.o.kept (c.o.trans g),Q7 V.o (c.o.trans g).size,s,h2,P,by rw[<-Z.o];exact x.kept (c.o.trans g),Cc.kept (c.o.trans g) C.o.at_,C.o.small,by rw[<-Z.o];exact aM⟩
   have p:=IB U T t (pa++E) _ _ d aT.o;have J:∀a,Chg d a []->Cl prog 15 #[.pointer (some ⟨T,0,none⟩),.slice aa h ab] a (V8 (BR t [] 0 pa) a):=fun a g=>IB U T t pa _ _ a (aS.o a g)
   have ar:Hid (∀a,Chg d a []->Cl prog 13 #[] a (BU true a)):=hZ fun a g=>Ko a (X.o.kept (c.o.trans g)) (Q7 V.o (c.o.trans g).size)
   clear c1 c2 ad A x av;rw[Ik]at p
   cases A:BR t [] 0 pa with
   |no k i=>
    rw[A]at p J;have aV:=(Py A).2;have a1:(i:Int)<(h:Int):=by have:=O.o;omega
    have af:=hZ p;have ae:=hZ J;have a2:=PI (.agg #[.int .i64 k,.int .i64 i]);have aF:=fun w=>Wt k i w
    unfold Hk at aF;clear p J A aV;go_wp2_with fail
    refine af.o.mono ?_;rintro e w4 ⟨rfl,h4⟩;have H:=hZ h4;clear h4;unfold Hk;go_wp2_with fail
    refine(ae.o w4 H.o).mono ?_;rintro e M ⟨rfl,h5⟩;have I:Hid (Chg d M []):=hZ (H.o.trans h5);clear h5;unfold Hk;go_wp2_with(go_at_call 13;refine(ar.o _ (by exact cg I.o)).mono ?_;rintro e G ⟨rfl,h6⟩;have W:Hid (Chg M G []):=hZ (ct cR h6);clear h6)
    go_ret
    exact⟨rfl,c.o.trans (I.o.trans W.o)⟩
   |yes v u1=>
    rw[A]at p J
    dsimp only at p
    rw[Fo]at p;have aG:Bt v:=KD am.o (fun o ho=>(B.o.small o ho).toB) A;have al:=hZ aG
    cases x:BR v [] 0 E with
    |no k j=>
     rw[x]at p
     dsimp only at p
     have aJ:(((0+pa.length+j:Nat)):Int)=(j:Int)+(h:Int):=by have:=O.o;omega
     have a0:(j:Int)+(h:Int)<=131072:=by have:=(Py x).2;have:=Z.o;omega
     have af:Hid (Cl prog 15 #[.pointer (some ⟨T,0,none⟩),.slice q (h+u) aC] d fun e w'=>e= .returned (.tuple #[.pointer none,Hk k ((j:Int)+(h:Int))])/\Chg d w' []):=hZ (by rw[<-aJ];exact p);have ae:=hZ J
     have ak:Hid (∀a f m,Chg d a []->CG a f m v->(∀b,f b->b<a.heap.size)->Cl prog 15 #[.pointer (some ⟨m,0,none⟩),.slice R u S] a fun e w'=>e= .returned (.tuple #[.pointer none,Hk k j])/\Chg a w' []):=hZ fun a f m g s h2=>by
      have:=IB f m v E _ _ a (aB.o a f m v g s h2 al.o);rw[x]at this;exact this
     have a3:=PI (.agg #[.int .i64 k,.int .i64 j]);have a4:=PI (.agg #[.int .i64 k,.int .i64 ((j:Int)+(h:Int))]);have aF:=fun w=>UT k ((j:Int)+(h:Int)) w
     have aZ:(0:Int)<=(j:Int):=by omega
     clear p J A x aJ;go_wp2_with fail
     refine af.o.mono ?_;rintro e w4 ⟨rfl,h4⟩;have H:=hZ h4;clear h4;unfold Hk;go_wp2_with fail
     refine(ae.o w4 H.o).mono ?_;rintro e M ⟨f,m,rfl,y,z,r,_⟩;have I:Hid (Chg d M []):=hZ (H.o.trans r);have G1:=hZ y;have G2:=hZ z;clear y z r;go_wp2_with fail
     refine(ak.o M f m I.o G1.o G2.o).mono ?_;rintro e G ⟨rfl,h6⟩;have W:Hid (Chg d G []):=hZ (I.o.trans h6);clear h6;unfold Hk;go_wp2_with(go_at_call 13;refine(ar.o _ (by exact cg W.o)).mono ?_;rintro e w7 ⟨rfl,h7⟩;have H7:Hid (Chg G w7 []):=hZ (ct cR h7);clear h7)
     go_ret
     exact⟨rfl,c.o.trans (W.o.trans H7.o)⟩
    |yes t2 u2=>
     rw[x]at p
     dsimp only at p
     have aH:Bt t2:=KD al.o (fun o ho=>(C.o.small o ho).toB) x;have aR:=hZ aH;have af:=hZ p;have ae:=hZ J
     have ak:Hid (∀a f m,Chg d a []->CG a f m v->(∀b,f b->b<a.heap.size)->Cl prog 15 #[.pointer (some ⟨m,0,none⟩),.slice R u S] a (F9 t2 a)):=hZ fun a f m g s h2=>by
      have:=IB f m v E _ _ a (aB.o a f m v g s h2 al.o);rw[x]at this;exact this
     clear p J A x aG aH;go_wp2_with fail
     refine af.o.mono ?_;rintro e w4 ⟨F0,aN,rfl,y,z,r,_⟩;have H:=hZ r;have aP:=hZ y;have ay:=hZ z;clear y z r;go_wp2_with fail
     refine(ae.o w4 H.o).mono ?_;rintro e M ⟨f,m,rfl,y,z,r,_⟩;have I:Hid (Chg d M []):=hZ (H.o.trans r);have aA:=hZ r;have G1:=hZ y;have G2:=hZ z;clear y z r;go_wp2_with fail
     refine(ak.o M f m I.o G1.o G2.o).mono ?_;rintro e G ⟨F2,aO,rfl,y,z,r,_⟩;have W:Hid (Chg d G []):=hZ (I.o.trans r);have HS:Hid (Cl prog 23 #[.pointer (some ⟨aN,0,none⟩),.pointer (some ⟨aO,0,none⟩)] G (BU true G)):=hZ (OL F0 F2 aN aO t2 G (aP.o.kept (aA.o.trans r) ay.o) y (fun b Q=>Q6 (ay.o b Q) (aA.o.trans r).size) z aR.o);clear y z r
     go_wp2_with(first
      |(go_at_call 23;refine HS.o.mono ?_;rintro e w8 ⟨rfl,h8⟩;have H8:Hid (Chg d w8 []):=hZ (W.o.trans h8);clear h8)
      |(go_at_call 13;refine(ar.o w8 H8.o).mono ?_;rintro e w7 ⟨rfl,h7⟩;have H7:Hid (Chg d w7 []):=hZ (H8.o.trans h7);clear h7))
     go_ret
     exact⟨rfl,c.o.trans H7.o⟩
end
end Go.Proofs.YtkfnkppdhcaeoaaGreatDoor

/- Part 27 of the proof of backBase. -/
import Derived.Lib.AppendZeros
import Derived.Test.YtkfnkppdhcaeoaaGreatDoorM26
set_option maxRecDepth 100000
set_option maxHeartbeats 32000000
set_option linter.all false
namespace Go.Proofs.YtkfnkppdhcaeoaaGreatDoor
open Go renaming Calls->Cl,TypeId->Ti,Value->Vl,World->Wl
section
open _root_.Go.Proofs.Tryz
open Go Go.Shelf Go.RowKit Go.Lib Tree Ptr
theorem JK:(prog.info? 42).map (fun i=>(i.zero,i.size,i.bytes))=some (some (.agg #[.int .i64 0,.string ⟨#[]⟩,.string ⟨#[]⟩,.slice none 0 0]),4,64):=Yb
theorem Yo{t b:Tr}{o:Bq}{v:List CW}(h:Gz t o= .yes b v):v.length<=2:=by
 unfold Gz at h;split at h
 .cases h
 .unfold Da at h
  repeat' split at h
  all_goals first
   |(obtain⟨_,_,rfl,_⟩:=Fd h;simp)
   |(obtain⟨_,rfl,_⟩:=Ib h;simp)
   |(injection h with c a;subst a;simp)
   |cases h
theorem Sa:∀{l:List Bq} {t b:Tr} {u v:List CW} {i:Nat},BR t u i l= .yes b v->v.length<=u.length+2*l.length
 |[],t,b,u,v,i,h=>by simp[BR]at h;rw[h.2];simp
 |o::l,t,b,u,v,i,h=>by
  simp only[BR]at h
  cases a:Gz t o with
  |no e=>rw[a]at h;cases h
  |yes c w=>
   rw[a]at h;have:=Sa h;have:=Yo a;simp only[Qk,Qj]at*;omega
theorem Eh.one{w:Wl}{F:Nat->Prop}{l:List Bq}{xs:List Vl}(h:Eh w F l xs):∀u∈xs,u.oneCell'=true:=Cc.one h.toIn
theorem AK.maxLe{w:Wl}{sv:Vl}{e:Ti}{vs:List Vl}(h:AK w sv e vs):vs.length<=9223372036854775807:=by
 rcases h.2 with⟨d,f⟩|⟨g,b,c,j,_,_,i,a,_⟩
 .omega
 .unfold maxLen at a;omega
def Jz(r:Zi)(w:Wl)(e:Ending)(w':Wl):Prop:=match r with
 | .no k i=>e= .returned (.tuple #[.slice none 0 0,Hk k i])/\Chg w w' []
 | .yes _ u=>if 65536<u.length then e= .returned (.tuple #[.slice none 0 0,.iface 50 (.int .i64 3)])/\Chg w w' []else
  ∃a xs G,e= .returned (.tuple #[a,.nilIface])/\EW w w' (u.map CW.toI) a xs G/\Chg w w' []
theorem Xn(F:Nat->Prop)(tb:Nat)(t:Tr)(E:List Bq)(so:Vl)(xs:List Vl)(w:Wl)(h:Yc w F tb t E so xs):
  Cl prog 21 #[.pointer (some ⟨tb,0,none⟩),so] w (Jz (BR t [] 0 E) w):=by
 have m:=Xs t F tb E so xs w h.laid h.big h.tree h.lt h.fine h.row h.at_ h.small h.many;unfold Fb at m;obtain⟨sa,sc,rfl,_⟩:=h.row.form;have ai:=h.many;obtain⟨nl,Y⟩:=Ue E.length
 rw[<-Y]at m|-
 cases C:BR t [] 0 E with
 |no k i=>
  rw[C]at m;have R:=hZ m;clear m C h Y ai;go_enter func21,ntmps21
  go_wp2_with((go_at_call 43;refine R.o.mono ?_;rintro e y ⟨rfl,a⟩;have z:=hZ a;clear a))
  go_ret2
  exact⟨rfl,z.o⟩
 |yes t' u=>
  rw[C]at m;have am:u.length<=131072:=by have:=Sa C;simp at this;omega
  have af:=hZ am;have R:=hZ m;clear m C h Y ai am;go_enter func21,ntmps21
  go_wp2_with((go_at_call 43;refine R.o.mono ?_;rintro e y ⟨⟨W,f,v,uv,bs,vs,G,rfl,x,ah⟩,a⟩;have z:=hZ a;have T:=hZ x;have ad:=hZ ah;obtain⟨ua,uc,rfl,al⟩:=x.row.form;have c3:=x.wat.blk.cell 3;simp only[Qa,Qb]at c3;have lW:=x.wat.blk.lt;have av:=hZ al;have U:=hZ x.grp.length;have aA:=x.row.maxLe;clear a x ah al))
  obtain⟨n,X⟩:=Ue vs.length
  have S:=hZ X;have M:=UD (f.flatten.length=u.length) (by have:=congrArg List.length ad.o;simpa using this);rw[<-X]at c3 aA|-;clear X;go_loopw [25,8] (fun aa v8 wr=>∃(i:Nat) (d:List UF) (q:Option Addr) (K:Nat),i<=n/\aa= .int .i64 i/\v8= .slice q d.length K/\Ba wr v8 42 4 d.length (d.flatMap D0)/\Eh y G (f.take i).flatten (d.flatMap D0)/\d.length=(f.take i).flatten.length/\Chg y wr []/\(∀g,v8.ownBlock=some g->y.heap.size<=g)) (fun aa _ _=>n-(intOf aa).toNat)
  case atStart=>exact⟨0,[],none,0,Zj,rfl,rfl,Ba.nil _ _ _,rfl,rfl,Chg.refl _ _,fun g c=>by cases c⟩
  case round=>
   obtain⟨i,d,q,K,hi,rfl,rfl,hL,hF,ag,hc,aj⟩:=hrel;have I:=hZ hL;have HF:=hZ hF;have ab:=hZ ag;have l:=hZ hc;have A:=hZ aj
   have aD:d.length<=131072:=by
    have a:(f.take i).flatten.length<=f.flatten.length:=by
     conv=>rhs;rw[<-List.take_append_drop i f]
     rw[List.flatten_append,Qk];omega
    have:=M.o;have:=af.o;omega
   clear hL hF ag hc aj;by_cases aE:i<n
   .obtain⟨os,O⟩:∃os,f[i]? =some os:=⟨_,Q9 (by have:=U.o;have:=S.o;omega)⟩
    obtain⟨sl,ys,Q,P,ax,N⟩:=T.o.grp.get i os O;obtain⟨ug,rfl⟩:=av.o (by intro e;rw[e]at Q;simp at Q);have c4:wr.cell? ⟨ug,i,none⟩=some sl:=l.o.keeps (T.o.row.cell rfl i _ Q);obtain⟨B,V,rfl⟩:=N.enc;obtain⟨la,lc,rfl,_⟩:=P.form;rw[<-V]at P c4;have au:=hZ (P.kept l.o)
    have aF:B.length<=131072:=by
     have a:os.length<=f.flatten.length:=by
      have:=List.sublist_flatten_of_mem (Qi O);exact this.length_le
     have:=M.o;have:=af.o;omega
    have ao:=hZ N.one;have ap:=hZ N;have an:=hZ V;have aq:=hZ O;clear Q P ax N V O;go_wp2_with(refine Fs rfl _ _ 23 rfl 42 _ 4 64 ZM underlying23 JK rfl (.slice q d.length K) d.length (d.flatMap D0) ZN I.o B.length (B.flatMap D0) (.slice la B.length lc) ZN au.o ao.o Zj Zj ?_;intro q2 aw w3 p r k3;have J:=hZ p;have s:=hZ r;have K3:=hZ k3;clear p r k3)
    go_roundw
    case rel=>
     have L:(f.take (i+1)).flatten=(f.take i).flatten++os:=by rw[Cb aq.o,List.flatten_append];simp
     refine⟨i+1,d++B,q2,aw,Zj,by go_num,by rw[Qk], ?_, ?_, ?_, ?_, ?_⟩
     .rw[List.flatMap_append,Qk];exact J.o
     .rw[L,List.flatMap_append];exact HF.o.append ap.o
     .rw[L,Qk,Qk,ab.o,an.o]
     .exact l.o.fresh s.o fun g c=>A.o g (by simpa using c)
     .intro g c
      rcases K3.o g c with h|h
      .exact A.o g h
      .have:=l.o.size;omega
    case measure=>simp[intOf];omega
   .obtain rfl:i=n:=by omega
    have W:d.length=u.length:=by
     have a:=ab.o;rw[Qn (by have:=U.o;have:=S.o;omega)]at a;rw[a,M.o]
    have ak:Eh y G (u.map CW.toI) (d.reverse.flatMap D0):=by
     have a:=HF.o;rw[Qn (by have:=U.o;have:=S.o;omega)]at a;rw[<-ad.o];exact PU (by rw[M.o];exact W) a
    have ar:=hZ ak;have ae:=hZ (YO d _ wr I.o Zj);have H:=hZ W;clear ak W;by_cases aC:(65536:Int)<(d.length:Int)
    .go_wp2_with((go_at_call 47;refine ae.o.mono ?_;rintro e w5 ⟨rfl,p,r⟩;have J:=hZ p;have s:=hZ r;clear p r))
     go_ret2
     have Z:65536<u.length:=by have:=H.o;omega
     show Jz (.yes t' u) w _ _
     unfold Jz
     dsimp only
     rw[Qr Z];exact⟨rfl,(z.o.trans l.o).fresh s.o fun g c=>by have:=A.o g (by simpa using c);have:=z.o.size;omega⟩
    .go_wp2_with((go_at_call 47;refine ae.o.mono ?_;rintro e w5 ⟨rfl,p,r⟩;have J:=hZ p;have s:=hZ r;clear p r))
     go_ret2
     have Z:¬65536<u.length:=by have:=H.o;omega
     show Jz (.yes t' u) w _ _
     unfold Jz
     dsimp only
     rw[Qs Z];have hG:∀b,G b->w.heap.size<=b/\b<y.heap.size:=T.o.gnew
     have hk:BZ G y w5:=(l.o.fresh s.o fun g c=>A.o g (by simpa using c)).keepsF (fun b j=>(hG b j).2);have aG:=z.o.size;have aH:=l.o.size;have aI:=s.o.size;refine⟨_,d.reverse.flatMap D0,fun b=>G b\/(Vl.slice q d.length K).ownBlock=some b,rfl,⟨?_,fun b o n' c' e=> ?_,ar.o.kept hk fun b j=> .inl j,fun b j=> ?_⟩,(z.o.trans l.o).fresh s.o fun g c=>by have:=A.o g (by simpa using c);omega⟩
     .have:=J.o
      rw[H.o]at this;rw[List.length_map,H.o];exact this
     .injection e with L e2 e3
      subst L
      right
      rcases I.o.2 with⟨a,_⟩|⟨g,cp,aB,D,_⟩
      .injection a with a;cases a
      .injection D with D
       injection D with D
       injection D with ay az
       subst ay;subst az;rfl
     .rcases j with j|j
      .have:=hG b j;omega
      .have a:=A.o b j
       have h2:=I.o.lt j;omega
theorem Wk{t:Tr}(a:Bt t){l:List Ap}(f:l=(Ai t).map Aw.toI){b:Vl}{xs:List Vl}{w:Wl}(c:As w b 6 l.length xs)(d:Az w l xs):Cl prog 28 #[b] w (F9 t w):=by
 subst f;refine(Fk _ b xs w c d (KI a) ?_).mono fun e w' h=>BO.steps a h
 have:=(Ar a.fits).1;rw[List.length_map,BL];omega
theorem PE:∀o∈DH,T7 o:=by
 intro o a;have b:=Lj o a;simp only[DH,Qh,List.not_mem_nil,or_false]at a
 rcases a with rfl|rfl
 .exact⟨ZM,ZM,b.steps,ZM⟩
 .exact⟨ZM,ZM,b.steps,ZM⟩
theorem Yp:Bt T1:=⟨⟨WJ,rfl,⟨Xb,Xe,Xc,trivial⟩,trivial⟩,ZM⟩
theorem Yq:Bt (.obj [kC] [.null]):=⟨⟨Rc,rfl,trivial,trivial⟩,ZM⟩
theorem TS:∀o∈Fa.map CW.toI,T7 o:=by
 intro o a;simp only[Fa,List.map_cons,List.map_nil,Qh,List.not_mem_nil,or_false]at a
 rcases a with rfl|rfl
 .exact⟨ZM,ZM,KI Yq,ZM⟩
 .exact⟨ZM,ZM,(fun s b=>by cases b),ZM⟩
def Vh(A:Nat):List Vl:=BJ Z5 (.slice (some ⟨A,0,none⟩) 1 1)++(BJ ak IQ++[])
theorem YE{w:Wl}{A:Nat}(a:Ac w A (AI (Fv f9) IQ) 72):Cc w DH (Vh A):=
 ⟨.slice (some ⟨A,0,none⟩) 1 1,AI (Fv f9) IQ++[],_,rfl,As.ofBlk a rfl,Az.cons (As.nil w 1) rfl,⟨IQ,[],_,rfl,As.nil w 6,rfl,rfl⟩⟩
def UA(A:Nat):List Vl:=AI (Fv f1) IQ++(AI (Fv f9) IQ++(AI (Fv f2) IQ++(AI (Un 3) IQ++(AI (Ve [kA]) (.slice (some ⟨A,0,none⟩) 1 1)++[]))))
theorem Y1{w:Wl}{A B:Nat}(a:Ac w A (Ad [kA]) 9)(b:Ac w B (UA A) 72):DX w (.slice (some ⟨B,0,none⟩) 5 5) Ln:=
 SL (As.ofBlk b rfl) (Az.cons (As.nil _ 1) (Az.cons (As.nil _ 1) (Az.cons (As.nil _ 1) (Az.cons (As.nil _ 1) (Az.cons (As.ofBlk a rfl) rfl)))))
theorem V3:∀s∈Ln,s.keys.length<=4294967296:=by
 intro s a;simp only[Ln,Qh,List.not_mem_nil,or_false]at a
 rcases a with rfl|rfl|rfl|rfl|rfl<;>decide
theorem Ko(w:Wl)(hL:Br w)(af:10<=w.heap.size):Cl prog 13 #[] w (BU true w):=by
 have HL:=hZ hL;have X:=hZ af;clear hL af;go_enter func13,ntmps13
 go_wp2_with(first
  |(go_at_call 33;refine(Tc w).mono ?_;rintro e w1 ⟨g,xs,rfl,B,C,D⟩;have K1:=hZ B;have K2:=hZ C;have K3:=hZ D;clear B C D)
  |(go_at_call 28;refine(Wk LH PA K1.o K2.o).mono ?_;rintro e w2 ⟨F,p,rfl,q1,q2,q3,_⟩;have Q1:=hZ q1;have S:=hZ q2;have I:=hZ (K3.o.trans q3);clear q1 q2 q3)
  |(go_at_call 31;refine(Ph f9 _).mono ?_;rintro e q ⟨rfl,h⟩;have Y:=UD (Chg w2 q []) h;clear h))
 obtain⟨A,J⟩:=Ue q.heap.size
 obtain⟨E,y⟩:=Ue ((q.alloc (.cells (AI (Fv f9) IQ).toArray 72)).alloc (.cells (Vh q.heap.size).toArray 42))
 have o:Chg w2 E []:=by rw[y];exact(Y.o.alloc _).alloc _
 have u:Ac E A (AI (Fv f9) IQ) 72:=by rw[y,J];exact(Ac.new _ _ _).alloc _
 have v:Ac E (A+1) (Vh A) 42:=by rw[y,J];exact BD _ _ _ _ _ rfl Zh
 have P:Hid (Yc E F p T0 DH (.slice (some ⟨A+1,0,none⟩) 2 2) (Vh A)):=Lib.hid
  ⟨HL.o.kept (I.o.trans o),Q7 X.o (I.o.trans o).size,Q1.o.kept o S.o,fun b a=>Q6 (S.o b a) o.size,LH,As.ofBlk v rfl,YE u,PE,ZM⟩
 have ad:=hZ (I.o.trans o);change Cl _ _ _ ((q.alloc (.cells (AI (Fv f9) IQ).toArray 72)).alloc (.cells (Vh q.heap.size).toArray 42)) _;rw[<-y,<-J];clear y J o u v Y Q1 S I K1 K2 K3;refine Calls.mono (IB F p T0 DH _ _ E P.o) ?_;rw[KL];rintro e N ⟨n,M,rfl,f,c,i,_⟩;have R1:=hZ f;have d:=hZ c;have T:=hZ i;clear f c i
 go_wp2_with(first
  |(go_at_call 31;refine(Ph _ _).mono ?_;rintro e l ⟨rfl,h⟩;(first|(have S3:=UD (Chg N l []) (S2.o.trans h))|(have S2:=UD (Chg N l []) (S1.o.trans h))|(have S1:=UD (Chg N l []) h));clear h))
 obtain⟨r,K⟩:=Ue l.heap.size
 obtain⟨j,z⟩:=Ue ((l.alloc (.cells (Ad [kA]).toArray 9)).alloc (.cells (UA l.heap.size).toArray 72))
 have x:Chg N j []:=by rw[z];exact(S3.o.alloc _).alloc _
 have u:Ac j r (Ad [kA]) 9:=by rw[z,K];exact(Ac.new _ _ _).alloc _
 have v:Ac j (r+1) (UA r) 72:=by rw[z,K];exact BD _ _ _ _ _ rfl Zh
 have ae:=UD (DX j (.slice (some ⟨r+1,0,none⟩) 5 5) Ln) (Y1 u v);have t:=UD (Yc j F p T0 DH (.slice (some ⟨A+1,0,none⟩) 2 2) (Vh A)) (P.o.kept (T.o.trans x));have H:=hZ (ad.o.trans (T.o.trans x));have m:=UD (CG j n M T1/\∀b,n b->b<j.heap.size) ⟨R1.o.kept x d.o,fun b a=>Q6 (d.o b a) x.size⟩;change Cl _ _ _ ((l.alloc (.cells (Ad [kA]).toArray 9)).alloc (.cells (UA l.heap.size).toArray 72)) _;rw[<-z,<-K];clear z K x u v S1 S2 S3 R1 d T P ad;refine Calls.mono (Xn F p T0 DH _ _ j t.o) ?_;rw[KL];rintro e W ak;obtain⟨L,ys,G,rfl,f,c⟩:∃L xs G,e= .returned (.tuple #[L,.nilIface])/\EW j W (Fa.map CW.toI) L xs G/\Chg j W []:=ak
 have V:=IB n M T1 (Fa.map CW.toI) L ys W ⟨HL.o.kept (H.o.trans c),Q7 X.o (H.o.trans c).size,m.o.1.kept c m.o.2,fun b a=>Q6 (m.o.2 b a) c.size,Yp,f.row,f.ops.toIn,TS,ZM⟩;obtain⟨U,hU⟩:=T5;rw[hU]at V;have aa:=hZ V;have d:=hZ c;obtain⟨sa,sc,rfl,_⟩:=f.row.form;clear f c V hU;go_wp2_with fail
 refine aa.o.mono ?_;rintro e k ⟨O,ag,rfl,f,c,i,_⟩;have ab:=UD (CG k n M T1/\∀b,n b->b<k.heap.size) ⟨m.o.1.kept (d.o.trans i) m.o.2,fun b a=>Q6 (m.o.2 b a) (d.o.trans i).size⟩;have Q:=UD (CG k F p T0/\∀b,F b->b<k.heap.size) ⟨t.o.tree.kept (d.o.trans i) t.o.lt,fun b a=>Q6 (t.o.lt b a) (d.o.trans i).size⟩;have R:=UD (CG k O ag T0/\∀b,O b->b<k.heap.size) ⟨f,c⟩;have aj:=UD (DX k (.slice (some ⟨r+1,0,none⟩) 5 5) Ln) (ae.o.kept (d.o.trans i));have H6:=hZ (H.o.trans (d.o.trans i));clear f c i aa ae t H m d
 go_wp2_with(first
  |(go_at_call 38;refine(TY n M T1 k ab.o.1 ab.o.2 ZM).mono ?_;rintro e w7 ⟨g7,al,G7,am,rfl,B,C,D,k4,k5⟩;have ai:=UD (DX w7 _ Ln) (PW B C k5 rfl);have Z:=hZ D;clear B C D k4 k5)
  |(go_at_call 37;refine(Rf Ln _ _ w7 ai.o (aj.o.kept Z.o) ZM V3).mono ?_;rintro e w8 ⟨rfl,h8⟩;have s:=hZ (Z.o.trans h8);clear h8)
  |(go_at_call 23;refine(OL O F ag p T0 w8 (R.o.1.kept s.o R.o.2) (Q.o.1.kept s.o Q.o.2) (fun b a=>Q6 (R.o.2 b a) s.o.size) (fun b a=>Q6 (Q.o.2 b a) s.o.size) LH).mono ?_;rintro e w9 ⟨rfl,h9⟩;have ah:=hZ (s.o.trans h9);clear h9))
 go_ret
 exact⟨rfl,H6.o.trans ah.o⟩
theorem E0{P:Program}{c:Func}{r p q:Tmp}{b:Ti}(h:c.results=#[.tmp r,.cell p b,.tmp q])(a:Array Vl)(w:Wl)(g:Nat)(T:Ti)(cs:List Vl)(d:TypeDesc)(i:a.getD p undef= .pointer (some ⟨g,0,none⟩))(e:Ac w g cs T)(l:P.underlying b=some d)(f:(match d with| .struct _| .array _ _=>true|_=>false)=true)(hi:(P.info? b).map (·.size)=some cs.length):
  (results c a).run P w= .ok (.tuple #[a.getD r undef,.agg cs.toArray,a.getD q undef]) w:=by
 have j:a[p]?.getD undef= .pointer (some ⟨g,0,none⟩):=by simpa using i
 have k:=run_loadVar_row (P:=P) w g T b cs.toArray (0,0) d e l f (by simpa using hi);simp[results,h,j,asAddr,k]
theorem Gj{P:Program}{o:Oper}{a:Act}{w:Wl}{Q:Exit->Act->Wl->Prop}{K:Act->Wl->Prop}(c:Ti)(x y:Operand)(i:o.op= .store c x y)(g:Nat)(b:List Vl)(k:a.eval x= .pointer (some ⟨g,0,none⟩))(l:a.eval y= .agg b.toArray)(T:Ti)(cs:List Vl)(d:Ac w g cs T)(hi:(P.info? c).map (·.size)=some b.length)(f:cs.length=b.length)(e:∀v∈b,v.oneCell'=true)(h:∀w',w'.heap.size=w.heap.size->Ac w' g b T->Chg w w' [g]->K (a.put o.dst undef) w'):Oper.wp P o a w K Q:=
 wp_store_row c x y i g b.toArray k l T cs.toArray d (by simpa using hi) (by simpa using f) (Array.all_eq_true_iff_forall_mem.2 fun v j=>e v (by simpa using j))
  (h _ Zh (d.row b) ((Chg.refl _ _).setRow _ _ Zh))
def ZT(r:Option Tr)(w:Wl)(e:Ending)(w':Wl):Prop:=(match r with
 |some t=>∃(F a:Nat->Prop) (cs:List Vl) (c:Nat),e= .returned (.tuple #[.pointer (some ⟨c,0,none⟩),.agg cs.toArray,.bool true])/\AL w' F t cs/\(∀b,F b->w.heap.size<=b/\b<w'.heap.size)/\CG w' a c t/\(∀b,a b->w.heap.size<=b/\b<w'.heap.size)/\Bt t
 |none=>e= .returned (.tuple #[.pointer none,.agg zV.toArray,.bool false]))/\Chg w w' []
theorem E7{w:Wl}{F:Nat->Prop}{t:Tr}{cs:List Vl}(h:AL w F t cs):(∀u∈cs,u.oneCell'=true)/\cs.length=6:=by
 obtain⟨c,d,a,b,ys,rfl,_⟩:=h.uni;exact⟨Mz _ _ _ _ _ _ _ _ _ _,rfl⟩
theorem Ya:∀u∈zV,u.oneCell'=true:=Mz 0 false 0 ⟨#[]⟩ none none 0 0 0 0
structure KR(w4:Wl)(R B:Nat)(cs:List Vl)(T:Ti)(s:Nat)(V:Nat->Vl->Prop)(d:Nat->Bool)(f:Nat->Vl)(w:Wl):Prop where
 chg:Chg w4 w [R]
 src:Ac w B cs T
 ne:B≠R
 old:∃ds,Ac w R ds T/\ds.length=cs.length
 dst:d s=true->Ac w R cs T
 vals:∀j,d j=true->V j (f j)
theorem KR.put{b:Wl}{R B:Nat}{cs:List Vl}{T:Ti}{s:Nat}{V:Nat->Vl->Prop}{d:Nat->Bool}{f:Nat->Vl}{w:Wl}{j:Nat}{y:Vl}(h:KR b R B cs T s V d f w)(c:j≠s)(g:V j y):KR b R B cs T s V (BA d j) (Eb f j y) w:=
 ⟨h.chg,h.src,h.ne,h.old,by rw[An d (Ne.symm c)];exact h.dst,fun k a=>by
  by_cases e:k=j
  .subst e;rw[Bf];exact g
  .rw[AA f y e];rw[An d e]at a;exact h.vals k a⟩
theorem KR.stored{g:Wl}{R B:Nat}{cs:List Vl}{T:Ti}{s:Nat}{V:Nat->Vl->Prop}{d:Nat->Bool}{f:Nat->Vl}{w w':Wl}(h:KR g R B cs T s V d f w)(i:V s undef)(a:Ac w' R cs T)(b:Chg w w' [R]):KR g R B cs T s V (BA d s) (Eb f s undef) w':=
 ⟨h.chg.trans b,h.src.kept b (by simpa using h.ne),h.ne,⟨cs,a,rfl⟩,fun _=>a,fun k c=>by
  by_cases e:k=s
  .subst e;rw[Bf];exact i
  .rw[AA f _ e];rw[An d e]at c;exact h.vals k c⟩
def aj(cs:List Vl)(j:Nat)(y:Vl):Prop:=match j with
 |0=>y= .agg cs.toArray
 |1=>y= .pointer none
 |3=>y= .bool false
 |_=>True
def WS(a:Nat)(cs:List Vl)(j:Nat)(y:Vl):Prop:=match j with
 |0=>y= .pointer (some ⟨a,0,none⟩)
 |1=>y= .agg cs.toArray
 |2=>y= .nilIface
 |3=>y= .bool true
 |4=>y= .bool true
 |5=>y= .pointer (some ⟨a,0,none⟩)
 |6=>y= .bool true
 |7=>y= .bool true
 |8=>y= .pointer (some ⟨a,0,none⟩)
 |10=>y= .bool true
 |_=>True
theorem WL(l:List Ap)(sl:Vl)(xs:List Vl)(w:Wl)(hR:As w sl 6 l.length xs)(hS:Az w l xs)(f:∀s∈l,Di s)(W:l.length<=4294967296):
  Cl prog 12 #[sl] w (ZT (AS l) w):=by
 obtain⟨sa,sc,rfl,aL,aN⟩:=hR.form;have O:=UD (∀x,Chg w x []->Cl prog 41 #[.slice sa l.length sc] x (ZY (AS l) x)) fun x Y=>Vq l _ xs x (hR.kept Y) (Az.kept Y hS) f W
 have L:=UD (∀x,Chg w x []->Cl prog 28 #[.slice sa l.length sc] x (BO l x)) fun x Y=>Fk l _ xs x (hR.kept Y) (Az.kept Y hS) f W
 have af:=UD (∀t,AS l=some t->Bt t) fun t ht=>FD f ht
 have e0:(if l.length<=65536 then CA l else none)=AS l:=rfl;obtain⟨n,hn⟩:=Ue l.length
 unfold BO at L;rw[e0]at L;rw[<-hn]at O L|-;clear hR hS f W aN aL hn e0
 cases T:AS l with
 |none=>
  rw[T]at O;clear L af T;go_enter func12,ntmps12
  go_wp2_with fail
  refine(O.o _ (by exact cg cR)).mono ?_;rintro e j ⟨rfl,y⟩;have H1:=UD (Chg w j []) (((Chg.refl w []).alloc _).trans y);have G:=UD (Ac j w.heap.size zV 29) ((BD w _ zV _ _ rfl rfl).kept y);obtain⟨cs,M⟩:=Ue zV
  have B:=UD ((prog.info? 29).map (·.size)=some cs.length) (by rw[M];exact A9);have N:=UD (∀u∈cs,u.oneCell'=true) (by rw[M];exact Ya);have P:=UD (zV.length=cs.length) (by rw[M]);have aE:=hZ M;rw[<-M];clear y M;go_wp2_with(refine Ae rfl _ _ _ rfl j.heap.size cs ZN ZN 29 zV (BD _ _ zV _ _ rfl rfl) B.o P.o N.o ?_;intro w2 ar S V;have ab:=hZ S;have E:=UD (Chg j w2 []) (Chg.step (b:=_) (by exact cg cR) V (fun i hi W=>by simp at hi;omega));clear ar S V)
  obtain⟨m,r⟩:=Ue (World.drew w2)
  have an:=hZ r;have H5:Hid (Chg w m []):=by rw[r];exact hZ (H1.o.trans E.o).drew
  have ai:Hid (Ac m w.heap.size zV 29):=by rw[r];exact hZ (G.o.kept E.o).drew
  have am:Hid (Ac m j.heap.size cs 29):=by rw[r];exact hZ ab.o.drew
  have ah:=UD (j.heap.size≠w.heap.size) (by have:=G.o.lt;omega);clear r;refine wp_region_any Yb ?_;change wpAny _ _ _ _ _ _ _ (World.drew _);rw[<-an.o];refine Dg _ (KR m w.heap.size j.heap.size cs 29 2 (aj cs)) Yb ?_ ?_ _ ?_
  .intro ii op a wa dd d g aM q aJ c K k
   match ii,d with
   |0,d=>
    obtain rfl:=Q5 d;have H:a.tmps.getD 5 undef= .pointer (some ⟨j.heap.size,0,none⟩):=g.at 5 Yb;rw[Qr (by simp[Region.wanted])];refine Bd _ _ rfl _ H 29 _ c.src _ underlying29 rfl B.o ?_;exact k _ _ Zh (c.put ZM (by simp[aj]))
   |1,d=>
    obtain rfl:=Q5 d;go_simp
    exact k _ _ Zh (c.put ZM (by simp[aj]))
   |2,d=>
    obtain rfl:=Q5 d;have H:a.tmps.getD 3 undef= .pointer (some ⟨w.heap.size,0,none⟩):=g.at 3 Yb;have hs:a.tmps.getD 16 undef= .agg cs.toArray:=c.vals 0 (q ⟨0,.data⟩ Zh rfl);obtain⟨ds,f,aq⟩:=c.old;rw[Qr (by simp[Region.wanted])];refine Gj _ _ _ rfl w.heap.size cs H hs 29 ds f B.o aq N.o ?_;intro w' _ ao ap;exact k undef _ (fun _=>rfl) (c.stored trivial ao ap)
   |3,d=>
    obtain rfl:=Q5 d;go_simp
    exact k _ _ Zh (c.put ZM (by simp[aj]))
   |_+4,d=>exact absurd d Zh
  .intro a wR dd g D c
   have R:=c.dst (D 2 ZM);have z:a.tmps.getD 2 undef= .pointer none:=c.vals 1 (D 1 ZM);have C:a.tmps.getD 4 undef= .bool false:=c.vals 3 (D 3 ZM);have ak:=hZ R;have al:=UD (Chg w wR []) (H5.o.fresh c.chg (fun i hi=>by simp at hi;omega));clear c D R;have v:=g.form' [16,2,4] Yb;have U:=g.defers;obtain⟨o,df⟩:=a;clear g
   dsimp only[Act.put]at v U z C
   simp only[List.foldl_cons,List.foldl_nil]at v;obtain⟨u16,av⟩:=Ue (o.getD 16 undef)
   obtain⟨u2,I⟩:=Ue (o.getD 2 undef)
   obtain⟨u4,J⟩:=Ue (o.getD 4 undef)
   rw[<-av,<-I,<-J]at v;rw[<-I]at z;rw[<-J]at C;clear av I J;simp only[List.setIfInBounds_toArray,List.set_cons_zero,List.set_cons_succ]at v;subst v;subst U;subst z;subst C;go_wp2_with fail
   refine bodyPost_ret (E0 rfl _ _ w.heap.size 29 cs _ rfl ak.o underlying29 rfl B.o) rfl ?_;rw[aE.o];exact⟨rfl,al.o⟩
  .exact⟨Chg.refl _ _,am.o,ah.o,⟨zV,ai.o,P.o⟩,(fun e=>by cases e),fun _ e=>by cases e⟩
 |some t=>
  rw[T]at O L;have aF:=UD (Bt t) (af.o t T);clear af T;go_enter func12,ntmps12
  go_wp2_with fail
  refine(O.o _ (by exact cg cR)).mono ?_;rintro e j ⟨⟨F,cs,rfl,X,g,hw⟩,y⟩;have H1:=UD (Chg w j []) (((Chg.refl w []).alloc _).trans y);have G:=UD (Ac j w.heap.size zV 29) ((BD w _ zV _ _ rfl rfl).kept y);have au:=hZ X;have ae:=UD (∀b,F b->w.heap.size<b/\b<j.heap.size) (fun b f=>by have:=g b f;simp at this;omega);have B:=UD ((prog.info? 29).map (·.size)=some cs.length) (by rw[(E7 X).2];exact A9);have N:=hZ (E7 X).1;have P:=UD (zV.length=cs.length) (by rw[(E7 X).2];rfl);clear y X g hw
  go_wp2_with(first
   |(refine Ae rfl _ _ _ rfl j.heap.size cs ZN ZN 29 zV (BD _ _ zV _ _ rfl rfl) B.o P.o N.o ?_;intro w2 ar S V;have ab:=hZ S;have E:=UD (Chg j w2 []) (Chg.step (b:=_) (by exact cg cR) V (fun i hi W=>by simp at hi;omega));clear ar S V)
   |(go_at_call 28;refine(L.o w2 (H1.o.trans E.o)).mono ?_;rintro e w3 ⟨⟨Z,A,rfl,k1,k2,k3,k4,k5⟩,k6⟩;have K1:=hZ k1;have K2:=hZ k2;have K4:=hZ k4;have K5:=hZ k5;have K6:=hZ k6;clear k1 k2 k3 k4 k5 k6))
  obtain⟨m,r⟩:=Ue (World.drew w3)
  have an:=hZ r;have Q:Chg j m []:=by rw[r];exact(E.o.trans K6.o).drew
  have H5:=UD (Chg w m []) (H1.o.trans Q);have ai:=UD (Ac m w.heap.size zV 29) (G.o.kept Q);have am:Hid (Ac m j.heap.size cs 29):=by rw[r];exact hZ (ab.o.kept K6.o).drew
  have ah:=UD (j.heap.size≠w.heap.size) (by have:=G.o.lt;omega);have aI:=UD (AL m F t cs) (AL.kept (Q.keepsF (fun b f=>(ae.o b f).2)) (fun _ h=>h) _ _ au.o);have aG:Hid (CG m Z A t):=by rw[r];exact hZ (K1.o.kept (Chg.refl w3 []).drew K2.o)
  have ag:=UD (∀b,Z b->w.heap.size<b/\b<m.heap.size) (fun b f=>by have y:=K4.o b f;have z:=K2.o b f;have h3:=E.o.size;have C:=G.o.lt;rw[r];exact⟨Zj,z⟩);have aH:=UD (w.heap.size<A) (by have y:=K5.o;have h3:=E.o.size;have C:=G.o.lt;omega);have ad:=UD (∀b,F b->w.heap.size<b/\b<m.heap.size) (fun b f=>by have y:=ae.o b f;have z:=Q.size;omega);clear r Q K1 K2 K4 K5 K6 au ae;refine wp_region_any Yb ?_;change wpAny _ _ _ _ _ _ _ (World.drew _);rw[<-an.o];refine Dg _ (KR m w.heap.size j.heap.size cs 29 9 (WS A cs)) Yb ?_ ?_ _ ?_
  .intro ii op a wa dd d g aM q aJ c K k
   match ii,d with
   |0,d=>
    obtain rfl:=Q5 d;have h7:a.tmps.getD 7 undef= .pointer (some ⟨A,0,none⟩):=g.at 7 Yb;go_simp
    exact k _ _ Zh (c.put ZM (by simp[WS]))
   |1,d=>
    obtain rfl:=Q5 d;have H:a.tmps.getD 5 undef= .pointer (some ⟨j.heap.size,0,none⟩):=g.at 5 Yb;rw[Qr (by simp[Region.wanted])];refine Bd _ _ rfl _ H 29 _ c.src _ underlying29 rfl B.o ?_;exact k _ _ Zh (c.put ZM (by simp[WS]))
   |2,d=>
    obtain rfl:=Q5 d;have h8:a.tmps.getD 8 undef= .nilIface:=g.at 8 Yb;go_simp
    exact k _ _ Zh (c.put ZM (by simp[WS]))
   |3,d=>
    obtain rfl:=Q5 d;have aP:a.tmps.getD 24 undef= .nilIface:=c.vals 2 (q ⟨2,.data⟩ Zh rfl);go_simp
    exact k _ _ Zh (c.put ZM (by simp[WS]))
   |4,d=>
    obtain rfl:=Q5 d;have aQ:a.tmps.getD 25 undef= .bool true:=c.vals 3 (q ⟨3,.data⟩ Zh rfl);go_simp
    exact k _ _ Zh (c.put ZM (by simp[WS]))
   |5,d=>
    obtain rfl:=Q5 d;have h7:a.tmps.getD 7 undef= .pointer (some ⟨A,0,none⟩):=g.at 7 Yb;rw[Qr (Cw rfl ZN (c.vals 4 (q ⟨4,.guard⟩ Zh rfl)))];go_simp
    exact k _ _ Zh (c.put ZM (by simp[WS]))
   |6,d=>
    obtain rfl:=Q5 d;have aS:a.tmps.getD 27 undef= .pointer (some ⟨A,0,none⟩):=c.vals 5 (q ⟨5,.data⟩ Zh rfl);rw[Qr (Cw rfl ZN (c.vals 4 (q ⟨4,.guard⟩ Zh rfl)))];go_simp
    exact k _ _ Zh (c.put ZM (by simp[WS]))
   |7,d=>
    obtain rfl:=Q5 d;have aR:a.tmps.getD 26 undef= .bool true:=c.vals 4 (q ⟨4,.data⟩ Zh rfl);have aT:a.tmps.getD 28 undef= .bool true:=c.vals 6 (q ⟨6,.data⟩ Zh rfl);go_simp
    exact k _ _ Zh (c.put ZM (by simp[WS]))
   |8,d=>
    obtain rfl:=Q5 d;have aO:a.tmps.getD 22 undef= .pointer (some ⟨A,0,none⟩):=c.vals 0 (q ⟨0,.data⟩ Zh rfl);go_simp
    exact k _ _ Zh (c.put ZM (by simp[WS]))
   |9,d=>
    obtain rfl:=Q5 d;have H:a.tmps.getD 3 undef= .pointer (some ⟨w.heap.size,0,none⟩):=g.at 3 Yb;have hs:a.tmps.getD 23 undef= .agg cs.toArray:=c.vals 1 (q ⟨1,.data⟩ Zh rfl);obtain⟨ds,f,aq⟩:=c.old;rw[Qr (by simp[Region.wanted])];refine Gj _ _ _ rfl w.heap.size cs H hs 29 ds f B.o aq N.o ?_;intro w' _ ao ap;exact k undef _ (fun _=>rfl) (c.stored trivial ao ap)
   |10,d=>
    obtain rfl:=Q5 d;have aU:a.tmps.getD 29 undef= .bool true:=c.vals 7 (q ⟨7,.data⟩ Zh rfl);go_simp
    exact k _ _ Zh (c.put ZM (by simp[WS]))
   |_+11,d=>exact absurd d Zh
  .intro a wR dd g D c
   have R:=c.dst (D 9 ZM);have z:a.tmps.getD 2 undef= .pointer (some ⟨A,0,none⟩):=c.vals 8 (D 8 ZM);have C:a.tmps.getD 4 undef= .bool true:=c.vals 10 (D 10 ZM);have ak:=hZ R;have aa:=hZ c.chg;have al:=UD (Chg w wR []) (H5.o.fresh c.chg (fun i hi=>by simp at hi;omega));clear c D R;have v:=g.form' [22,23,24,25,26,27,28,29,2,4] Yb;have U:=g.defers;obtain⟨o,df⟩:=a;clear g
   dsimp only[Act.put]at v U z C
   simp only[List.foldl_cons,List.foldl_nil]at v;obtain⟨u22,aw⟩:=Ue (o.getD 22 undef)
   obtain⟨u23,ax⟩:=Ue (o.getD 23 undef)
   obtain⟨u24,ay⟩:=Ue (o.getD 24 undef)
   obtain⟨u25,az⟩:=Ue (o.getD 25 undef)
   obtain⟨u26,aA⟩:=Ue (o.getD 26 undef)
   obtain⟨u27,aB⟩:=Ue (o.getD 27 undef)
   obtain⟨u28,aC⟩:=Ue (o.getD 28 undef)
   obtain⟨u29,aD⟩:=Ue (o.getD 29 undef)
   obtain⟨u2,I⟩:=Ue (o.getD 2 undef)
   obtain⟨u4,J⟩:=Ue (o.getD 4 undef)
   rw[<-aw,<-ax,<-ay,<-az,<-aA,<-aB,<-aC,<-aD,<-I,<-J]at v;rw[<-I]at z;rw[<-J]at C;clear aw ax ay az aA aB aC aD I J;simp only[List.setIfInBounds_toArray,List.set_cons_zero,List.set_cons_succ]at v;subst v;subst U;subst z;subst C;go_wp2_with fail
   refine bodyPost_ret (E0 rfl _ _ w.heap.size 29 cs _ rfl ak.o underlying29 rfl B.o) rfl ?_;have hz:=aa.o.size;obtain⟨tv,t1,t2,t3⟩:=aG.o;have aK:BZ Z m wR:=aa.o.keepsF (fun b f=>(ag.o b f).2) (fun b f hm=>by simp at f;subst f;have:=(ag.o _ hm).1;omega);refine⟨⟨F,Z,cs,A,rfl,AL.kept (aa.o.keepsF (fun b f=>(ad.o b f).2) (fun b f hm=>by simp at f;subst f;have:=(ad.o _ hm).1;omega)) (fun _ h=>h) _ _ aI.o,fun b f=>by have:=ad.o b f;omega,⟨tv, ?_,Af.kept aK (fun _ h=>h) _ _ t2,Zj⟩,fun b f=>by have:=ag.o b f;omega,aF.o⟩,al.o⟩;rw[aa.o.cell (p:=⟨A,0,none⟩) t3 (by have:=aH.o;simp;omega)];exact t1
  .exact⟨Chg.refl _ _,am.o,ah.o,⟨zV,ai.o,P.o⟩,(fun e=>by cases e),fun _ e=>by cases e⟩
structure fT(w0:Wl)(os:List Bq)(i:Nat)(sv:Vl)(w:Wl):Prop where
 ex:∃xs G,Ba w sv 42 4 i xs/\Eh w G (os.take i) xs/\(∀b,G b->w0.heap.size<=b/\b<w.heap.size)/\∀g,sv.ownBlock=some g->w0.heap.size<=g/\¬G g
 chg:Chg w0 w []
theorem fT.next{w0 wr c t k:Wl}{os:List Bq}{i g u:Nat}{o:Bq}{sv p:Vl}{xs ys:List Vl}{G d:Nat->Prop}(w:Chg w0 wr [])(D:Ba wr sv 42 4 i xs)(E:Eh wr G (os.take i) xs)(r:∀b,G b->w0.heap.size<=b/\b<wr.heap.size)(n:∀g,sv.ownBlock=some g->w0.heap.size<=g/\¬G g)(J:os[i]? =some o)(q:Chg wr c [])(F:As c p 6 o.steps.length ys)(v:SE d p)(H:Cr c d o.steps ys)(f:∀b,d b->wr.heap.size<=b/\b<c.heap.size)(l:Chg c t [])(C:Ba k (.slice (some ⟨g,0,none⟩) (i+1) u) 42 4 (i+1) (xs++BJ o p))(m:Chg t k sv.ownBlock.toList)(I:sv.ownBlock=some g\/g=t.heap.size):fT w0 os (i+1) (.slice (some ⟨g,0,none⟩) (i+1) u) k:=by
 have M:=q.size;have N:=l.size;have O:=m.size;have L:=w.size;have x:∀y,sv.ownBlock=some y->y<wr.heap.size:=fun y j=>D.lt j
 have K:BZ G wr k:=((q.trans l).none sv.ownBlock.toList|>.trans m).keepsF (fun b a=>(r b a).2) (fun b s a=>(n b (by simpa using s)).2 a);have z:BZ d c k:=((l.none sv.ownBlock.toList).trans m).keepsF (fun b a=>(f b a).2) (fun b s a=>by have A:=x b (by simpa using s);have B:=(f b a).1;omega);refine⟨⟨_,fun b=>G b\/d b,C, ?_,fun b a=> ?_,fun y j=> ?_⟩,((w.trans q).trans l).fresh m (fun y j=>(n y (by simpa using j)).1)⟩
 .rw[Cb J]
  refine(Eh.kept K (fun _ h=> .inl h) E).append ⟨p,ys,[],by simp,F.keptF v z,v.mono (fun _ h=> .inr h),Cr.kept z (fun _ h=> .inr h) H,rfl⟩
 .rcases a with a|a
  .have:=r b a;omega
  .have:=f b a;omega
 .have e:g=y:=by injection j
  subst e
  rcases I with h|h
  .refine⟨(n g h).1,fun a=> ?_⟩
   rcases a with a|a
   .exact(n g h).2 a
   .have A:=x g h;have B:=(f g a).1;omega
  .refine⟨by omega,fun a=> ?_⟩
   rcases a with a|a
   .have:=r g a;omega
   .have:=f g a;omega
theorem fT.done{w0 w:Wl}{os:List Bq}{sv:Vl}{n:Nat}(h:fT w0 os n sv w)(j:n=os.length):∃xs G,EW w0 w os sv xs G:=by
 obtain⟨xs,G,f,d,g,i⟩:=h.ex;subst j;rw[List.take_length]at d;refine⟨xs,fun b=>G b\/sv.ownBlock=some b,f.rowC (by rw[d.length]),fun b o n c e=> ?_,Eh.kept (fun _ _ _=>rfl) (fun _ h=> .inl h) d,fun b a=> ?_⟩
 .rw[e];exact .inr rfl
 .rcases a with a|a
  .exact g b a
  .exact⟨(i b a).1,f.lt a⟩
theorem fT.start{w a:Wl}{os:List Bq}(h:Chg w a []):fT w os 0 (.slice none 0 0) a:=⟨⟨[],fun _=>False,Ba.nil _ _ _,rfl,fun b (c:False)=>c.elim,fun g d=>by cases d⟩,h⟩
theorem fX(k:Nat)(h:k<100000):(⟨(Go.Lib.decDigits k).toArray⟩:BY).size<=11:=by
 have a:=(IX 5 k h).resolve_right (by omega)
 show(Go.Lib.decDigits k).toArray.size<=11
 rw[List.size_toArray];omega
theorem gu(i:Nat)(h:i<100000):(XP i).size<=1000:=by
 have:=fX i h;unfold XP;rw[ByteArray.size_append];have:Zb.size=1:=rfl;omega
theorem gd{t u:Tr}(h:Bt t)(a:u∈Ab t):Bt u:=⟨h.good.items u a,C8 h.fits a⟩
def gm(l:List Tr)(os:List CW):Prop:=∀(j:Nat) (t:Tr),l[j]? =some t->∃ks m o,t= .obj ks m/\os[j]? =some o/\Xi ks m (XP j)= .yes o
def gE(os:List Bq)(w:Wl)(e:Ending)(w':Wl):Prop:=∃a xs G,e= .returned (.tuple #[a,.nilIface])/\EW w w' os a xs G/\Chg w w' []
theorem gl(l:List Tr)(os:List CW)(F:Nat->Prop)(U:Nat)(w:Wl)(hL:Br w)(ab:dM w)(hT:CG w F U (.list l))(hF:∀b,F b->b<w.heap.size)(B:Bt (.list l))(ag:os.length=l.length)(ho:gm l os):
  Cl prog 34 #[.pointer (some ⟨U,0,none⟩)] w (gE (os.map CW.toI) w):=by
 have HV:=hZ (M9 (.list l) F U w hT hF (Ar B.fits).1);have ah:l.length<=65536:=by have:=B.many;simp only[Ab]at this;omega
 have X:=hZ hL;have ax:=hZ ab;have HO:=hZ ho;have ar:=hZ B;have Z:=hZ ah;have Y:=hZ ag;have aB:∀(a:Option Addr) (n c:Nat) (w:Wl),(Instr.typeAssert (.iface 141 (.slice a n c)) 144 141 true).run prog w= .ok (.tuple #[.slice a n c,.bool true]) w:=fun _ _ _ _=>by kernel_rfl
 clear hL ab hT hF B ag ho ah;go_enter func34,ntmps34
 go_wp2_with(first
  |(go_at_call 68;refine HV.o.mono ?_;rintro e E ⟨v,G,rfl,D,h1,hG⟩;simp only[Hm]at D;obtain⟨sl,vs,rfl,hr,P⟩:=D;have ao:=P.length;obtain⟨va,vc,rfl,ae⟩:=hr.cell;rw[ao];have p:=hZ h1;have HG:=hZ hG;have HK:=hZ P;have aq:=hZ ae;clear hr ao h1 hG P ae))
 obtain⟨n,S⟩:∃n,n=l.length:=⟨_,rfl⟩
 rw[<-S]at Z Y|-;have HN:=hZ S;have aa:Hid (fT E (os.map CW.toI) 0 (.slice none 0 0) E):=hZ (fT.start (Chg.refl E []));have aF:=Z.o;clear S;go_loopw [28,6] (fun V v6 wr=>∃(i:Nat) (q:Option Addr) (K:Nat),i<=n/\V= .int .i64 i/\v6= .slice q i K/\fT E (os.map CW.toI) i v6 wr) (fun V _ _=>n-(intOf V).toNat)
 case atStart=>exact⟨0,none,0,by omega,rfl,rfl,aa.o⟩
 case round=>
  obtain⟨i,q,K,hi,rfl,rfl,R⟩:=hrel;have J:=hZ R;have h:=hZ R.chg;clear R aa;by_cases aE:i<n
  .obtain⟨t,C⟩:∃t,l[i]? =some t:=⟨_,Q9 (by have:=HN.o;omega)⟩
   obtain⟨ks,m,o,rfl,aj,ai⟩:=HO.o i t C;obtain⟨v',am,an⟩:=HK.o.get i _ C;simp only[Hm]at an;obtain⟨k,r,us,rfl,Q,al,af⟩:=an;obtain⟨b,oo,rfl,_,ad⟩:=aq.o i _ am;have c0:wr.cell? ⟨b,oo+i,none⟩=some (.iface 149 (.slice k m.length r)):=h.o.keeps ad;have O:Bt (.obj ks m):=gd ar.o (Qi C);have ak:eR ks m us G k wr:=eR.kept ⟨Q,al,af,fun y hy=>(HG.o y hy).2,by have:=O.many;simp only[Ab]at this;omega⟩ h.o;obtain⟨L,A⟩:∃d:BY,d=⟨(Go.Lib.decDigits i).toArray⟩:=⟨_,rfl⟩
   have aD:L.size<=11:=by rw[A];exact fX i (by omega)
   have av:Hid (∀f,Chg wr f []->Cl prog 71 #[.slice k m.length r,.string (⟨#[47]⟩++L)] f (fV o.toI f)):=hZ fun f s=>by
    have:=gq ks m us G k r (XP i) o f (X.o.kept ((p.o.trans h.o).trans s)) (ax.o.kept ((p.o.trans h.o).trans s)) (ak.kept s) (gu i (by omega)) (fun u hu=>gd O hu) ai;rw[Q]at this;rw[A];exact this
   have au:Hid (∀f,Chg wr f []->Cl prog 70 #[.int .i64 i] f (fun e w'=>e= .returned (.string L)/\Chg f w' [])):=hZ fun f s=>by
    have:=Ri (i:Int) (by omega) (by omega) f (X.o.kept ((p.o.trans h.o).trans s));rw[Mc,<-A]at this;exact this
   have aw:=hZ aj;have aC:∀(w:Wl),(Instr.typeAssert (.iface 149 (.slice k m.length r)) 144 149 true).run prog w= .ok (.tuple #[.slice k m.length r,.bool true]) w:=fun _=>by kernel_rfl
   clear C aj ai am Q al af ad O ak A
   go_wp2_with(first
    |(go_at_call 70;refine(au.o _ (Chg.refl _ _)).mono ?_;rintro e w3 ⟨rfl,h3⟩;have I:=hZ h3;clear h3)
    |(go_at_call 71;refine(av.o _ I.o).mono ?_;rintro e H ⟨sv,ys,G1,N,T,q2,q3,q4,q5⟩;obtain⟨x,z,rfl,_⟩:=T.form;have N:e= .returned (.tuple #[.agg #[.int .i64 o.toI.kind,.string o.toI.path,.string o.toI.frm,.slice x o.toI.steps.length z],.nilIface]):=N;subst N;have Q1:=hZ T;have Q2:=hZ q2;have Q3:=hZ q3;have Q4:=hZ q4;have W:=hZ (I.o.trans q5);have ap:Hid (wr.heap.size<=w3.heap.size):=hZ I.o.size;clear T q2 q3 q4 q5)
    |(refine Bp rfl _ _ rfl H.heap.size (by rfl) 42 [.int .i64 o.toI.kind,.string o.toI.path,.string o.toI.frm,.slice x o.toI.steps.length z] (by exact BD H _ [.int .i64 o.toI.kind,.string o.toI.path,.string o.toI.frm,.slice x o.toI.steps.length z] _ _ rfl rfl) _ underlying42 rfl A0 ?_)
    |(obtain⟨xs,G2,M,e2,e3,e4⟩:=J.o.ex;refine Er rfl _ _ 23 rfl 42 _ 4 64 (by decide) underlying23 JK rfl (.slice q i K) i xs (by rfl) ((M.kept W.o).kept (bs:=[]) (((Chg.refl _ _).alloc _).alloc _) (by simp)) (H.heap.size+1) 0 1 1 (BJ o.toI (.slice x o.toI.steps.length z)) (by rfl) (by omega) (by rfl) (fun j v D=>by rw[Nat.zero_add];exact((BD _ _ (BJ o.toI (.slice x o.toI.steps.length z)) _ _ rfl (by simp)).cell j).trans D) (Dx _ _ _ _) (by omega) (by omega) ?_;intro g ay w7 k1 k2 k3;have K1:=hZ k1;have K2:=hZ k2;have K3:=hZ k3;have E1:=hZ M;have E2:=hZ e2;have E3:=hZ e3;have E4:=hZ e4;clear k1 k2 k3 M e2 e3 e4))
   go_roundw
   case rel=>
    have aA:=fT.next J.o.chg E1.o E2.o E3.o E4.o (by rw[List.getElem?_map,aw.o];rfl) W.o (As.kept Q1.o (Chg.refl _ _)) Q2.o Q3.o (fun b hb=>⟨Q7 ap.o (Q4.o b hb).1,(Q4.o b hb).2⟩) (((Chg.refl H []).alloc _).alloc _) K1.o K2.o K3.o;exact⟨i+1,_,ay,by omega,by go_num,rfl,aA⟩
   case measure=>simp[intOf];omega
  .obtain rfl:i=n:=by omega
   go_wp2_with fail
   go_ret2
   obtain⟨xs,G,az⟩:=fT.done J.o (by rw[List.length_map,Y.o]);exact⟨_,xs,G,rfl,az.kept (Chg.refl _ []) (by simp) p.o.size,p.o.trans h.o⟩
end
section
open Go Go.Shelf Go.RowKit Go.Lib Tree Ptr

theorem T7.toB{o:Bq}(h:T7 o):ZL o:=⟨Q7 h.path ZM,Q7 h.frm ZM,h.steps⟩
structure UG(w:Wl)(so:Vl)(ops:List Bq)(xs:List Vl):Prop where
 row:As w so 4 ops.length xs
 at_:Cc w ops xs
 small:∀o∈ops,T7 o
 many:ops.length<=4294967296
theorem UG.kept{w w':Wl}{c:Vl}{b:List Bq}{xs:List Vl}(h:UG w c b xs)(a:Chg w w' []):UG w' c b xs:=
 ⟨h.row.kept a,Cc.kept a h.at_,h.small,h.many⟩
structure aq(w:Wl)(sl:Vl)(l:List Ap)(xs:List Vl):Prop where
 row:As w sl 6 l.length xs
 at_:Az w l xs
 small:∀s∈l,Di s
 many:l.length<=4294967296
end
section
open _root_.Go.Proofs.Tryz
open Go Go.Shelf Go.RowKit Go.Lib Tree Ptr
theorem fZ(d:Nat)(a:Option Addr)(n c:Nat)(w:Wl)(h:65536<n)(i:n<=4294967296):
  Cl prog 21 #[.pointer (some ⟨d,0,none⟩),.slice a n c] w fun e w'=>e= .returned (.tuple #[.slice none 0 0,.iface 50 (.int .i64 3)])/\Chg w w' []:=by
 have g:=hZ (cN d a n c w h i);go_enter func21,ntmps21
 go_wp2_with((go_at_call 43;refine g.o.mono ?_;rintro e j ⟨rfl,b⟩;have f:=hZ b;clear b))
 go_ret2
 exact⟨rfl,f.o⟩
theorem gh(a:Option Addr)(n c:Nat)(w:Wl)(d:65536<n)(f:n<=4294967296):
  Cl prog 24 #[.slice a n c] w fun e w'=>e= .returned (.tuple #[.pointer none,.iface 50 (.int .i64 3)])/\Chg w w' []:=by
 have b:(65536:Int)<(n:Int):=Zj
 go_enter func24,ntmps24
 go_wp2_with fail
 go_ret2
 exact⟨rfl,Chg.refl _ _⟩
theorem gf:∀{c:List Bq} {l:List Tr} {i:Nat} {t:Tr},Sp l i c= .yes t->(Ag (.list l)).within=true->(Ag t).within=true
 |[],l,i,t,h,a=>by simp only[Sp]at h;injection h with h;rw[<-h];exact a
 |o::r,l,i,t,h,a=>by
  simp only[Sp]at h;split at h
  .cases h
  .split at h
   .rename_i b;exact gf h b
   .cases h
def gw(w:Wl)(e:Ending)(w':Wl):Prop:=∃a x,e= .returned (.tuple #[.pointer none,.iface a x])/\Chg w w' []
def gD(w:Wl)(e:Ending)(w':Wl):Prop:=∃a x,e= .returned (.tuple #[.slice none 0 0,.iface a x])/\Chg w w' []
theorem gC{w2:Wl}{b:List Bq}{a:Option Addr}{c:Nat}{ys:List Vl}(w:Br w2)(v:10<=w2.heap.size)(x:dM w2)(h:UG w2 (.slice a b.length c) b ys)(s:∀o∈b,o.path.size<=1048576/\o.frm.size<=1048576):
  (∀d,Chg w2 d []->Cl prog 24 #[.slice a b.length c] d (gw d))\/
  (b.length<=65536/\(∀o∈b,Bn o=0)/\Sp [] 0 b= .yes (.list (b.map OK))/\Bt (.list (b.map OK))/\∀d,Chg w2 d []->Cl prog 24 #[.slice a b.length c] d (F9 (.list (b.map OK)) d)):=by
 have r:∀o∈b,T7 o/\o.path.size<=2097152/\o.frm.size<=2097152:=fun o p=>⟨h.small o p,by have:=(s o p).1;omega,by have:=(s o p).2;omega⟩
 by_cases j:65536<b.length
 .exact .inl fun d f=>(gh a _ c d j h.many).mono fun e w' ⟨m,n⟩=>⟨_,_,m,n⟩
 .have j:b.length<=65536:=by omega
  have g:∀d,Chg w2 d []->Cl prog 24 #[.slice a b.length c] d (ez (Sp [] 0 b) d):=fun d f=>gy b _ ys d (w.kept f) (Q7 v f.size) (x.kept f) (h.row.kept f) (Cc.kept f h.at_) r j
  cases l:Sp [] 0 b with
  |no k i=>
   rw[l]at g;exact .inl fun d f=>(g d f).mono fun e w' ⟨m,n⟩=>⟨_,_,m,n⟩
  |yes t=>
   rw[l]at g;obtain⟨q,u⟩:=XY l;rw[List.nil_append]at u;subst u;exact .inr ⟨j,q,rfl,eJ q r (gf l ZN),g⟩
theorem gr{c:List Bq}(h:∀o∈c,Bn o=0):gm (c.map OK) (c.map WZ):=by
 intro j t a;rw[List.getElem?_map]at a
 cases b:c[j]? with
 |none=>rw[b]at a;cases a
 |some o=>
  rw[b]at a
  injection a with a
  obtain⟨ks,m,d,e⟩:=Xj (h o (Qi b)) (XP j);exact⟨ks,m,WZ o,by rw[<-a,d],by rw[List.getElem?_map,b];rfl,e⟩
theorem gA{a:List Bq}{F:Nat->Prop}{f:Nat}{w:Wl}(k:Br w)(m:dM w)(l:CG w F f (.list (a.map OK)))(j:∀b,F b->b<w.heap.size)(p:Bt (.list (a.map OK)))(i:∀o∈a,Bn o=0):
  Cl prog 34 #[.pointer (some ⟨f,0,none⟩)] w fun e w'=>∃c d xs G,e= .returned (.tuple #[.slice c a.length d,.nilIface])/\EW w w' (a.map fy) (.slice c a.length d) xs G/\Chg w w' []:=by
 refine(gl (a.map OK) (a.map WZ) F f w k m l j p Zh (gr i)).mono ?_;rintro e w' ⟨q,xs,G,rfl,h,n⟩;have g:(a.map WZ).map CW.toI=a.map fy:=by rw[List.map_map];rfl
 rw[g]at h;obtain⟨c,d,rfl,_⟩:=h.row.form;rw[List.length_map]at h|-;exact⟨c,d,xs,G,rfl,h,n⟩
theorem gG{w2:Wl}{g:List Bq}{a:Option Addr}{c h:Nat}{ys:List Vl}{p:Nat->Prop}{t:Tr}(A:Br w2)(z:10<=w2.heap.size)(m:UG w2 (.slice a g.length c) g ys)(B:CG w2 p h t)(w:∀b,p b->b<w2.heap.size)(x:Bt t):
  ((∀d,Chg w2 d []->Cl prog 15 #[.pointer (some ⟨h,0,none⟩),.slice a g.length c] d (gw d))/\(∀d,Chg w2 d []->Cl prog 21 #[.pointer (some ⟨h,0,none⟩),.slice a g.length c] d (gD d)))\/
  (∃n u,g.length<=65536/\BR t [] 0 g= .yes n u/\Bt n/\(∀d,Chg w2 d []->Cl prog 15 #[.pointer (some ⟨h,0,none⟩),.slice a g.length c] d (F9 n d))/\∀d,Chg w2 d []->Cl prog 21 #[.pointer (some ⟨h,0,none⟩),.slice a g.length c] d (Jz (.yes n u) d)):=by
 by_cases y:65536<g.length
 .exact .inl ⟨fun d _=>(dq h a _ c d y m.many).mono fun e w' ⟨j,l⟩=>⟨_,_,j,l⟩,fun d _=>(fZ h a _ c d y m.many).mono fun e w' ⟨j,l⟩=>⟨_,_,j,l⟩⟩
 .have v:∀d,Chg w2 d []->Yc d p h t g (.slice a g.length c) ys:=fun d f=>⟨A.kept f,Q7 z f.size,B.kept f w,fun b C=>Q6 (w b C) f.size,x,m.row.kept f,Cc.kept f m.at_,m.small,Zj⟩
  have q:=fun d f=>IB p h t g _ ys d (v d f)
  have r:=fun d f=>Xn p h t g _ ys d (v d f)
  cases s:BR t [] 0 g with
  |no k i=>
   rw[s]at q r;exact .inl ⟨fun d f=>(q d f).mono fun e w' ⟨j,l⟩=>⟨_,_,j,l⟩,fun d f=>(r d f).mono fun e w' ⟨j,l⟩=>⟨_,_,j,l⟩⟩
  |yes n u=>
   rw[s]at q r;exact .inr ⟨n,u,Zj,rfl,KD x (fun o D=>(m.small o D).toB) s,q,r⟩
theorem gB{w:Wl}{a:List Bq}{b o c i:Nat}{xs:List Vl}{G:Nat->Prop}{w0:Wl}{p:Bq}(h:EW w0 w (a.map fy) (.slice (some ⟨b,o,Option.none⟩) a.length c) xs G)(d:a[i]? =some p):
  ∃sv ys,As w sv 6 (fy p).steps.length ys/\Az w (fy p).steps ys/\∀j v,(BJ (fy p) sv)[j]? =some v->w.cell? ⟨b,o+i*4+j,Option.none⟩=some v:=by
 have e:=h.row;exact Cc.item e (by rw[List.length_map];have:=(Qc.1 d).1;omega) h.ops.toIn (by rw[List.getElem?_map,d];rfl)
def gF(a b X:Nat)(sv:Vl)(j:Nat)(y:Vl):Prop:=match j with
 |0=>y= .nilIface
 |3=>y= .nilIface
 |7=>y= .pointer (some ⟨a,0,none⟩)
 |8=>y= .pointer (some ⟨b,0,none⟩)
 |9=>y= .bool true
 |13=>y= .pointer (some ⟨a,0,none⟩)
 |14=>True
 |15=>y= .pointer (some ⟨X,3,none⟩)
 |16=>y=sv
 |17=>y= .bool true
 |_=>y= .bool false
structure gc(x:Tr)(ta tc X:Nat)(sv:Vl)(w4:Wl)(d:Nat->Bool)(f:Nat->Vl)(w:Wl):Prop where
 chg:Chg w4 w []
 vals:∀j,d j=true->gF ta tc X sv j (f j)
 s1:d 14=true->DX w (f 14) (MW x)
theorem gc.put{x:Tr}{a b X:Nat}{sv:Vl}{m w w':Wl}{d:Nat->Bool}{f:Nat->Vl}{j:Nat}{y:Vl}(h:gc x a b X sv m d f w)(c:(14:Nat)≠j)(n:gF a b X sv j y)(g:Chg w w' []):gc x a b X sv m (BA d j) (Eb f j y) w':=
 ⟨h.chg.trans g,fun k l=>by
  by_cases e:k=j
  .subst e;rw[Bf];exact n
  .rw[AA f y e];rw[An d e]at l;exact h.vals k l,fun i=>by rw[AA f y c];rw[An d c]at i;exact(h.s1 i).kept g⟩
theorem gx{x:Tr}{b c X:Nat}{sv:Vl}{g w w':Wl}{d:Nat->Bool}{f:Nat->Vl}{y:Vl}(h:gc x b c X sv g d f w)(j:DX w' y (MW x))(i:Chg w w' []):gc x b c X sv g (BA d 14) (Eb f 14 y) w':=
 ⟨h.chg.trans i,fun k a=>by
  by_cases e:k=14
  .subst e;exact True.intro
  .rw[AA f y e];rw[An d e]at a;exact h.vals k a,fun l=>by rw[Bf];exact j⟩
end
end Go.Proofs.YtkfnkppdhcaeoaaGreatDoor

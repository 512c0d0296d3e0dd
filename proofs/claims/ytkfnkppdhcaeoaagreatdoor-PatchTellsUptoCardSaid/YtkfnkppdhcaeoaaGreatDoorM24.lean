/- Part 24 of the proof of coreBase. -/
import Derived.Test.YtkfnkppdhcaeoaaGreatDoorM23
set_option maxRecDepth 100000
set_option maxHeartbeats 32000000
set_option linter.all false
namespace Go.Proofs.YtkfnkppdhcaeoaaGreatDoor
open Go renaming Calls->Cl,TypeId->Ti,Value->Vl,World->Wl
section
open _root_.Go.Proofs.Tryz
open Go Go.Shelf Go.RowKit Go.Lib Tree Ptr
theorem Hh{P:Program}{c:Func}{p q:Tmp}{b:Ti}(h:c.results=#[.tmp q,.cell p b])(a:Array Vl)(w:Wl)(g:Nat)(T:Ti)(cs:List Vl)(d:TypeDesc)(i:a.getD p undef= .pointer (some ⟨g,0,none⟩))(e:Ac w g cs T)(l:P.underlying b=some d)(f:(match d with| .struct _| .array _ _=>true|_=>false)=true)(hi:(P.info? b).map (·.size)=some cs.length):
  (results c a).run P w= .ok (.tuple #[a.getD q undef,.agg cs.toArray]) w:=by
 have j:a[p]?.getD undef= .pointer (some ⟨g,0,none⟩):=by simpa using i
 have k:=run_loadVar_row (P:=P) w g T b cs.toArray (0,0) d e l f (by simpa using hi);simp[results,h,j,asAddr,k]
def T6(W:Nat)(h:Vl)(d:List Nat)(g u:Tr)(o:Bq)(w:Wl)(e:Ending)(w':Wl):Prop:=
 ∃f c i a sv ys G,e= .returned (.tuple #[f,.agg (BJ o sv).toArray])/\Dr w w' o sv ys G/\AP w' u f c/\Hu w' W g i h a/\DJ w d (W::(c++a))/\Chg w w' d/\∀b,b∈W::(c++a)->¬G b
def EC(W:Nat)(b:Vl)(a:List Nat)(t:Tr)(ts:List BY)(w:Wl)(e:Ending)(w':Wl):Prop:=match Ah t ts with
 |none=>AZ 4 a w e w'
 |some u=>T6 W b a (A8 t ts) u (AC 1 ts (Ai u)) w e w'
theorem JE{W:Nat}{b:Vl}{a:List Nat}{t:Tr}{ts:List BY}{w:Wl}(h:Ah t ts=none):EC W b a t ts w=AZ 4 a w:=by
 funext e w';unfold EC;rw[h]
theorem JF{W:Nat}{b:Vl}{a:List Nat}{t u:Tr}{ts:List BY}{w:Wl}(h:Ah t ts=some u):EC W b a t ts w=T6 W b a (A8 t ts) u (AC 1 ts (Ai u)) w:=by
 funext e w';unfold EC;rw[h]
structure UI(W:Nat)(t:Tr)(v uv:Vl)(bs:List Nat)(F:Nat->Prop)(sl:Vl)(ts:List BY)(w:Wl):Prop where
 laid:Br w
 wat:Hu w W t v uv bs
 tat:JC w F sl ts
 nodup:(W::bs).Nodup
 big:∀b,b∈W::bs->10<=b
 apart:∀b,b∈W::bs->¬F b
theorem JH(t:Tr)(a:List BY)(s:BY):A8 t (a++[s])=Bz (CT s) t a:=by
 unfold A8;rw[List.dropLast_concat,BE]
theorem RJ(W:Nat)(t:Tr)(v m:Vl)(bs:List Nat)(F:Nat->Prop)(a:Option Addr)(n c:Nat)(ts:List BY)(w:Wl)(l:List Nat)(d:Br w)(g:Hu w W t v m bs)(f:JC w F (.slice a n c) ts)(i:Ah t ts=none):
  Cl prog 167 #[.pointer (some ⟨W,0,none⟩),.slice a n c] w (AZ 4 l w):=by
 have k:=hZ (Im d g f i);clear d g f i;go_enter func167,ntmps167
 go_wp2_with(first
  |(go_at_call 170;refine(k.o _ (by exact cg cR)).mono ?_;rintro e o ⟨h,b⟩;unfold By at h;subst h;have j:=UD (Chg w o []) (ct cR b);clear b))
 exact⟨rfl,rfl,j.o.none _⟩
theorem RI(W:Nat)(t u:Tr)(v uv:Vl)(bs:List Nat)(F:Nat->Prop)(a:Option Addr)(c:Nat)(p:List BY)(s:BY)(w:Wl)(l:List Tr)(h:UI W t v uv bs F (.slice a (p.length+1) c) (p++[s]) w)(O:Ah t p=some (.list l))(an:Dy (.list l) s=some u):
  Cl prog 167 #[.pointer (some ⟨W,0,none⟩),.slice a (p.length+1) c] w (EC W uv (W::bs) t (p++[s]) w):=by
 obtain⟨pi,Y,hu⟩:=Rd an;have ao:p++[s]≠[]:=Zh
 have X:Ah t (p++[s])=some u:=by rw[BW,O];exact an
 obtain⟨b,o,rfl,af,aD,a7,bm,bn,a3⟩:=h.tat.last;have lb:=h.tat.lt b af;obtain⟨tv,xv,rfl⟩:=h.wat.at_.iface;obtain⟨vp,bp,rest,K⟩:=EU h.wat.at_ _ p _ rfl O;obtain⟨n,sv,vs,fs,rfl,z,U⟩:=K.at_.list;have a6:l.length<=65536:=by have:=(h.wat.fine.lead O).many;simp only[Ab]at this;omega
 have ba:pi<l.length:=Jf Y;obtain⟨vu,bu,Z,aq,aZ⟩:=z.at_.get hu;obtain⟨_,_,_,_,be,bg,r2,_,C,q6,q7,aF⟩:=Fx K.at_ (s:=s) (by simp only[D6];exact Y) hu;have aG:=K.snoc aF;obtain⟨Q,R,rfl⟩:=aq.iface;have aM:=z.at_.length
 obtain⟨g,r,rfl,bj⟩:∃g r,sv= .slice (some ⟨g,0,none⟩) vs.length r/\vs.length<=r:=by
  rcases z.lst.one with⟨_,e⟩|h
  .rw[e]at Z;simp at Z
  .exact h
 have bb:be= .iface Q R:=by
  unfold Jn at C
  injection C with _ C
  injection C with C
  injection C with C
  injection C with C
  subst C;have A:=z.blk.cell 0;simp only[Qa]at A;rw[q6]at A
  injection A with A
  injection A with A
  injection A with A
  injection A with A
  subst A;have e7:=z.lst.cell rfl pi _ Z;rw[q7]at e7;injection e7
 subst bb;have V:=h.wat.fine.lead X;have aK:=Ar h.wat.fine.fits;have aL:=Ar V.fits;obtain⟨q1,q2⟩:=R9 h.wat.fine ao X (by rw[List.dropLast_concat];exact O);have q2:(Ag (A8 t (p++[s]))).bytes+(Ag u).bytes+0=(Ag t).bytes:=q2;have aE:Bt (A8 t (p++[s])):=h.wat.fine.cut ao X;have a5:(p++[s]).length=p.length+1:=Zh
 have aA:=hZ (Dl h.laid h.wat h.tat aG);have ad:=hZ (Ud h.laid h.wat h.tat.init K);unfold Jn at ad;have ay:=UD (∀q,Chg w q []->JB (.iface Q R) (Ag u) q) fun q L=>MD _ u _ bu q (Q8 _) V.good V.fits (aq.chg L Zh)
 have aj:∀y,y∈bp->y∈bs:=fun y k=>K.perm.mem_iff.2 (Qe _ k)
 have al:g∈bs:=aj g (by rw[U];simp[Vl.ownBlock]);have ak:n∈bs:=aj n (by rw[U];simp);have ah:W∉bs:=(List.nodup_cons.1 h.nodup).1
 have aI:g≠n:=fun e=>by
  have I:=List.nodup_iff_count.1 h.nodup g;have D:=K.perm.count_eq g;rw[U,<-e]at D;simp only[List.count_cons,List.count_append,Vl.ownBlock,Option.toList_some,List.count_nil]at I D;simp at I D;omega
 have am:∀y,y∈[W,n,g]->y∈W::bs:=fun y k=>by simp at k;rcases k with rfl|rfl|rfl;simp;simp[ak];simp[al]
 have az:=UD (∀q H,Chg w q [W,n,g]->AP q u (.iface Q R) H->Cl prog 196 #[.int .i64 1,.slice (some ⟨b,o,none⟩) (p.length+1) c,.iface Q R] q (Et (AC 1 (p++[s]) (Ai u)) q)) fun q H L a9=>by
  have ht:=h.tat.kept L (fun y k=>h.apart y (am y k));exact DE 1 F _ (p++[s]) u _ H q (h.laid.kept L (fun y k=>h.big y (am y k))) ht.row ht.lt ht.ok ht.small V a9
 have c1:w.cell? ⟨n,0,none⟩=some (.slice (some ⟨g,0,none⟩) vs.length r):=z.blk.cell 0;have a8:=z.at_.one;have aJ:∀y∈vs,∃t x,y= .iface t x:=Ih z.at_
 have a4:pi<vs.length:=Zj
 have bo:vs.length<=65536:=Zj
 have aP:=UD (∀q,Chg w q []->Cl prog 149 #[.string s,.int .i64 vs.length] q (fun e w'=>e= .returned (.tuple #[.int .i64 pi,.bool true])/\Chg q w' [])) fun q L=>by
  have:=Gl s l.length q (h.laid.kept L) Zj Zj;unfold Je at this;rw[Y]at this;rw[aM];exact this
 have aO:=UD (∀q,Chg w q []->Cl prog 203 #[.slice (some ⟨g,0,none⟩) vs.length r,.int .i64 pi,.int .i64 (pi+1)] q (fun e w'=>e= .returned (.slice (some ⟨g,0,none⟩) (vs.length-1) r)/\AK w' (.slice (some ⟨g,0,none⟩) (vs.length-1) r) 95 (vs.eraseIdx pi)/\Chg q w' [g])) fun q L=>
  NV g r pi vs q aJ (z.lst.kept L) a4
 have hcut:CT s (.list l)= .list (l.eraseIdx pi):=by
  unfold CT;simp only[D6,Y]
 have aR:=UD (∀wR,Chg w wR [n,g]->Ac wR n [.slice (some ⟨g,0,none⟩) (vs.length-1) r] 107->AK wR (.slice (some ⟨g,0,none⟩) (vs.length-1) r) 95 (vs.eraseIdx pi)->OP w wR W (Bz (CT s) t p) u (.iface tv xv) (.iface Q R) bs [n,g]) fun wR B J k3=>
  Wo h.wat K z U h.nodup hu Z hcut B J k3
 have bi:b≠W:=fun e=>h.apart W Zh (by rw[<-e];exact af)
 have aX:W≠n:=fun e=>ah (by rw[e];exact ak)
 have aY:W≠g:=fun e=>ah (by rw[e];exact al)
 have lW:=h.wat.blk.lt;have br:=z.blk.lt;have lg:=z.lst.lt (g:=g) rfl;have aC:=z.blk;have a0:OS prog (.iface 104 (.pointer (some ⟨n,0,none⟩))) 95 175 #[.pointer none,.bool false]:=fun _=>Yb
 have a1:OS prog (.iface 104 (.pointer (some ⟨n,0,none⟩))) 95 104 #[.pointer (some ⟨n,0,none⟩),.bool true]:=fun _=>Yb
 have HH:=hZ h;have aw:=hZ h.wat.blk;have aQ:=hZ aC;have ax:=hZ aE;have M:=UD (((Ag (A8 t (p++[s]))).nodes:Int)=(Ag t).nodes-(Ag u).nodes/\((Ag (A8 t (p++[s]))).bytes:Int)=(Ag t).bytes-(Ag u).bytes) ⟨Zj,Zj⟩;rw[JF X];obtain⟨m,d⟩:=Ue p.length
 rw[<-d]at aA ad az aD a7 a3|-;obtain⟨N,hN⟩:=Ue ((Ag t).nodes)
 obtain⟨BB,ae⟩:=Ue ((Ag t).bytes)
 obtain⟨su,ar⟩:=Ue (Ag u)
 rw[<-hN,<-ae]at aw aK;rw[<-hN,<-ae,<-ar]at M;rw[<-ar]at ay aL;obtain⟨t1,t2,t3⟩:=aK;obtain⟨s1,s2,s3⟩:=aL;have t4:su.nodes<=N:=by have:=M.o.1;omega
 have t5:su.bytes<=BB:=by have:=M.o.2;omega
 clear h ao X K z Y hu Z aq V q1 q2 a5 d U aZ aM ba af O an aF aG aj am C q6 q7 aE a8 aJ hcut aC hN ae ar a6 ah al ak;go_enter func167,ntmps167
 go_wp2_with(first
  |(go_at_call 170;refine(aA.o _ (by exact cg cR)).mono ?_;rintro e w1 ⟨rfl,I⟩;have H1:=UD (Chg w w1 []) (ct cR I);have B1:=UD (Ac w1 w.heap.size Ef 42) ((Ac.new w Ef 42).kept I);obtain⟨f,args,P,B⟩:=ay.o w1 H1.o;have HM:=hZ P;have HC:=hZ B;clear I P B)
  |(refine Am rfl _ _ _ rfl _ rfl f args HM.o _ HC.o ?_;rintro e w2 ⟨rfl,D⟩;refine⟨_,rfl, ?_⟩;have H2:=UD (Chg w w2 []) (H1.o.trans D);have B2:=UD (Ac w2 w.heap.size Ef 42) (B1.o.kept D);unfold Jv;have e0:=H2.o.keeps aD;clear D)
  |(go_at_call 201;refine(ad.o _ (by exact cg H2.o)).mono ?_;rintro e w3 ⟨rfl,h3⟩;have H3:=UD (Chg w w3 []) (ct H2.o h3);have B3:=UD (Ac w3 w.heap.size Ef 42) (B2.o.kept h3);have d3:=H3.o.keeps c1;clear h3)
  |(go_at_call 149;refine(aP.o _ (by exact cg H3.o)).mono ?_;rintro e w4 ⟨rfl,h4⟩;have H4:=UD (Chg w w4 []) (ct H3.o h4);have B4:=UD (Ac w4 w.heap.size Ef 42) (B3.o.kept h4);have d4:=H4.o.keeps c1;clear h4)
  |(go_at_call 203;refine(aO.o _ (by exact cg H4.o)).mono ?_;rintro e E ⟨rfl,B,J⟩;have bf:=UD (Chg w4 E [g]) J;have H5:=UD (Chg w E [g]) ((H4.o.none _).trans J);have L5:=hZ B;have B5:=UD (Ac E w.heap.size Ef 42) (B4.o.kept J (by simp;omega));have aa:=hZ (aQ.o.kept H5.o (by simp;exact fun e=>aI e.symm));have d5:=aa.o.cell 0;have f5:∀j,E.frozen? ⟨n,j,none⟩=false:=fun j=>aa.o.frozen j;have l5:=aa.o.lt;have T:=hZ (aw.o.kept H5.o (by simp;exact aY));have aU:=T.o.cell 1;have aV:=T.o.cell 2;have bh:∀j,E.frozen? ⟨W,j,none⟩=false:=fun j=>T.o.frozen j;have bq:=T.o.lt;simp only[Qa,Qb]at d5 aU aV;clear B J)
  |(go_at_call 196;have aS:=hZ (aa.o.set 0 (.slice (some ⟨g,0,none⟩) (vs.length-1) r));have av:=UD (Chg E (E.setCell ⟨n,0,none⟩ (.slice (some ⟨g,0,none⟩) (vs.length-1) r)) [n]) ((Chg.refl E [n]).setCell _ _ Zh);have L6:=hZ (L5.o.kept av.o (fun y k=>by simp[Vl.ownBlock]at k;subst k;simpa using aI));have H6:=UD (Chg w (E.setCell ⟨n,0,none⟩ (.slice (some ⟨g,0,none⟩) (vs.length-1) r)) [n,g]) ((H5.o.mono (fun _ _ d=>by simp at d;simp[d])).trans (av.o.mono (fun _ _ d=>by simp at d;simp[d])));obtain⟨H,ab,P,m2,au,m4,m5,m6⟩:=aR.o _ H6.o aS.o L6.o;have aT:=hZ au;have m3:DJ w (W::bs) (W::(H++ab)):=(DJ.refl HH.o.nodup).count au;have ai:W∉H++ab:=(List.nodup_cons.1 m3.nodup).1;have M1:=hZ P;have M2:=hZ m2;have M3:=hZ m3;have M5:=hZ m5;refine(az.o _ H (by exact((H6.o.mono (cs:=[W,n,g]) (fun _ _ d=>Qg _ d)).setCell _ _ Zh).setCell _ _ Zh) (by exact P.chg (cs:=[W]) (((Chg.refl _ [W]).setCell _ _ Zh).setCell _ _ Zh) (fun y k d=>by simp at k;subst k;exact ai (Qe _ d)))).mono ?_;clear P m2 m3 au m4 m5 m6;rintro e w6 h5;obtain⟨sv,ys,G,rfl,B,J⟩:=h5.at;have K1:=hZ B;have K2:=hZ J;obtain⟨sa,sc,rfl,_⟩:=B.row.form;clear h5 B J)
  |(refine Ae rfl _ _ _ rfl w.heap.size (BJ (AC 1 (p++[s]) (Ai u)) (.slice sa (AC 1 (p++[s]) (Ai u)).steps.length sc)) ZN ZN 42 Ef (by exact(((B5.o.set_other _ _ (by simp only;omega)).set_other _ _ (by simp only;omega)).set_other _ _ (by simp only;omega)).kept K2.o) A0 rfl (Dx _ _ _ _) ?_;intro w7 bd aB aH;have aN:=hZ aB;have S:=hZ aH;clear bd aB aH))
 have bc:=H5.o.size;have ag:Chg (E.setCell ⟨n,0,none⟩ (.slice (some ⟨g,0,none⟩) (vs.length-1) r)) w6 [W]:=Chg.trans (b:=_) (((Chg.refl _ [W]).setCell _ _ Zh).setCell _ _ Zh) (K2.o.none _);have a2:Chg w w6 [W,n,g]:=(H6.o.mono (fun _ _ d=>Qg _ d)).trans (ag.mono (fun _ _ d=>by simp at d;simp[d]));have aW:Chg w w7 [W,n,g]:=a2.step S.o (fun i hi O=>by simp at hi;omega);have hk:=K1.o.kept (w0:=w) S.o (fun b N=>by simp at N;subst N;simpa using B5.o.lt) (by simpa using bc);have bl:=AP.lt _ _ _ M1.o;have bk:=AP.lt _ _ _ M2.o
 have ap:∀y,y∈W::(H++ab)->y<w.heap.size:=fun y k=>by
  have I:=List.count_pos_iff.2 k;have D:=aT.o y
  rcases Qh.1 (List.count_pos_iff.1 (Q6 I D))with h|h
  .omega
  .exact AP.lt _ _ _ HH.o.wat.at_ _ h
 refine bodyPost_ret (Hh rfl _ _ w.heap.size 42 (BJ (AC 1 (p++[s]) (Ai u)) (.slice sa (AC 1 (p++[s]) (Ai u)).steps.length sc)) _ rfl aN.o underlying42 rfl A0) rfl ?_;rw[JH]at M ax|-;refine⟨.iface Q R,H,.iface tv xv,ab,_,ys,G,rfl,hk, ?_,⟨?_, ?_,ax.o⟩,M3.o,aW.mono (fun _ _ d=> ?_),fun b N hG=> ?_⟩
 .exact(M1.o.chg ag (fun y k d=>by simp at k;subst k;exact ai (Qe _ d))).chg S.o (fun y k d=>by simp at k;subst k;exact Nat.lt_irrefl _ (ap _ (Qg _ (Qe _ d))))
 .have e1:=M.o.1
  have e2:=M.o.2;have N:=(((T.o.set_other ⟨n,0,none⟩ (.slice (some ⟨g,0,none⟩) (vs.length-1) r) (by simp only;exact fun e=>aX e.symm)).set 1 (.int .i64 (N-su.nodes))).set 2 (.int .i64 (BB-su.bytes)));rw[e1,e2];exact(N.kept K2.o).kept S.o (by simp;omega)
 .exact(M2.o.chg ag (fun y k d=>by simp at k;subst k;exact ai (Qd _ d))).chg S.o (fun y k d=>by simp at k;subst k;exact Nat.lt_irrefl _ (ap _ (Qg _ (Qd _ d))))
 .simp at d
  rcases d with rfl|rfl|rfl
  .simp
  .exact Qg _ (M5.o _ Zh)
  .exact Qg _ (M5.o _ Zh)
 .have I:=(hk.new b hG).1
  have D:=ap b N;omega
theorem TD(W:Nat)(t u:Tr)(v uv:Vl)(bs:List Nat)(F:Nat->Prop)(a:Option Addr)(c:Nat)(B:List BY)(s:BY)(w:Wl)(ks:List BY)(l:List Tr)(h:UI W t v uv bs F (.slice a (B.length+1) c) (B++[s]) w)(hl:Ah t B=some (.obj ks l))(aK:Dy (.obj ks l) s=some u):
  Cl prog 167 #[.pointer (some ⟨W,0,none⟩),.slice a (B.length+1) c] w (EC W uv (W::bs) t (B++[s]) w):=by
 obtain⟨hh,hu⟩:=Uk aK;have aL:B++[s]≠[]:=Zh
 have ai:Ah t (B++[s])=some u:=by rw[BW,hl];exact aK
 obtain⟨b,o,rfl,aB,a5,b8,cb,cc,b0⟩:=h.tat.last;have lb:=h.tat.lt b aB;obtain⟨tv,xv,rfl⟩:=h.wat.at_.iface;obtain⟨vp,bp,rest,S⟩:=EU h.wat.at_ _ B _ rfl hl;obtain⟨n,sv,sk,vs,fs,rfl,D,aa⟩:=S.at_.obj;have aG:=h.wat.fine.lead hl;have ag:=aG.good;have b7:l.length<=65536:=by have:=aG.many;simp only[Ab]at this;omega
 have bd:=Dk (Cp.1 hh);have aC:=S0 (s:=s) D ag.1 cb cc hh
 have hcut:CT s (.obj ks l)= .obj (ks.eraseIdx (A5 ks s)) (l.eraseIdx (A5 ks s)):=by
  unfold CT;simp only[D6,Qr hh]
 have aO:D6 (.obj ks l) s=some (A5 ks s):=by simp only[D6];rw[Qr hh]
 obtain⟨pi,bc⟩:=Ue (A5 ks s)
 rw[<-bc]at aC bd hu hcut aO;have bM:=hZ aC;have ca:pi<l.length:=by have:=ag.2.1;omega
 obtain⟨vu,bu,al,aP,bY⟩:=D.at_.get hu;obtain⟨_,_,_,_,cj,co,r2,_,M,q6,q7,a9⟩:=Fx S.at_ (s:=s) aO hu;have ba:=S.snoc a9;obtain⟨tu,xu,rfl⟩:=aP.iface;have cd:=D.at_.length
 obtain⟨q,cv,rfl,cZ⟩:∃g c',sv= .slice (some ⟨g,0,none⟩) vs.length c'/\vs.length<=c':=by
  rcases D.lst.one with⟨_,e⟩|h
  .rw[e]at al;simp at al
  .exact h
 obtain⟨gk,ck,rfl,cY⟩:∃g c',sk= .slice (some ⟨g,0,none⟩) ks.length c'/\ks.length<=c':=by
  rcases D.keys.one with⟨_,e⟩|h
  .have:=Ao ks;rw[e]at this;simp at this;omega
  .rw[Ao]at h;exact h
 have ce:cj= .iface tu xu:=by
  unfold IR at M
  injection M with _ M
  injection M with M
  injection M with M
  injection M with M
  subst M;have L:=D.blk.cell 0;simp only[Qa]at L;rw[q6]at L
  injection L with L
  injection L with L
  injection L with L
  injection L with L
  subst L;have e7:=D.lst.cell rfl pi _ al;rw[q7]at e7;injection e7
 subst ce;have af:=h.wat.fine.lead ai;have be:=Ar h.wat.fine.fits;have bf:=Ar af.fits;obtain⟨X,q2⟩:=R9 h.wat.fine aL ai (by rw[List.dropLast_concat];exact hl);rw[BE]at q2;have q2:(Ag (A8 t (B++[s]))).bytes+(Ag u).bytes+s.size=(Ag t).bytes:=q2;have a8:Bt (A8 t (B++[s])):=h.wat.fine.cut aL ai;have b6:(B++[s]).length=B.length+1:=Zh
 have aZ:=hZ (Dl h.laid h.wat h.tat ba);have ar:=hZ (Ud h.laid h.wat h.tat.init S);unfold IR at ar;have aX:=UD (∀N,Chg w N []->JB (.iface tu xu) (Ag u) N) fun N hx=>MD _ u _ bu N (Q8 _) af.good af.fits (aP.chg hx Zh)
 have ap:∀y,y∈bp->y∈bs:=fun y z=>S.perm.mem_iff.2 (Qe _ z)
 have aI:q∈bs:=ap q (by rw[aa];simp[Vl.ownBlock]);have aH:gk∈bs:=ap gk (by rw[aa];simp[Vl.ownBlock]);have aF:n∈bs:=ap n (by rw[aa];simp);have ao:W∉bs:=(List.nodup_cons.1 h.nodup).1
 have a6:∀y,List.count y [n,gk,q]<=1:=fun y=>by
  have R:=List.nodup_iff_count.1 h.nodup y;have Q:=S.perm.count_eq y;rw[aa]at Q;simp only[List.count_cons,List.count_append,Vl.ownBlock,Option.toList_some,List.count_nil]at R Q|-;omega
 have aj:[n,gk,q].Nodup:=List.nodup_iff_count.2 a6
 have aM:gk≠n/\q≠n/\gk≠q:=by
  simp at aj;exact⟨fun e=>aj.1.1 e.symm,fun e=>aj.1.2 e.symm,aj.2⟩
 have aJ:∀y,y∈[W,n,gk,q]->y∈W::bs:=fun y z=>by simp at z;rcases z with rfl|rfl|rfl|rfl;simp;simp[aF];simp[aH];simp[aI]
 have aY:=UD (∀N P,Chg w N [W,n,gk,q]->AP N u (.iface tu xu) P->Cl prog 196 #[.int .i64 1,.slice (some ⟨b,o,none⟩) (B.length+1) c,.iface tu xu] N (Et (AC 1 (B++[s]) (Ai u)) N)) fun N P hx b9=>by
  have ht:=h.tat.kept hx (fun y z=>h.apart y (aJ y z));exact DE 1 F _ (B++[s]) u _ P N (h.laid.kept hx (fun y z=>h.big y (aJ y z))) ht.row ht.lt ht.ok ht.small af b9
 have b3:∀y∈vs,∃t x,y= .iface t x:=Ih D.at_
 have b5:pi<vs.length:=Zj
 have b4:pi<ks.length:=by have:=ag.2.1;omega
 have c1:vs.length<=65536:=Zj
 have c0:ks.length<=65536:=by have:=ag.2.1;omega
 have bQ:=UD (∀H U ad,Chg w H [n,gk,q]->Ac H n [.slice (some ⟨q,0,none⟩) (vs.length-1) ad,.slice (some ⟨gk,0,none⟩) (ks.length-1) U] 177->AK H (.slice (some ⟨q,0,none⟩) (vs.length-1) ad) 95 (vs.eraseIdx pi)->AK H (.slice (some ⟨gk,0,none⟩) (ks.length-1) U) 9 (Ad (ks.eraseIdx pi))->OP w H W (Bz (CT s) t B) u (.iface tv xv) (.iface tu xu) bs [n,gk,q]) fun H U ad J T k3 k4=>
  Wp h.wat S D aa h.nodup hu al hcut J T k3 k4
 have cX:b≠W:=fun e=>h.apart W Zh (by rw[<-e];exact aB)
 have cU:W≠n:=fun e=>ao (by rw[e];exact aF)
 have cV:W≠gk:=fun e=>ao (by rw[e];exact aH)
 have cW:W≠q:=fun e=>ao (by rw[e];exact aI)
 have lW:=h.wat.blk.lt;have c3:=D.blk.lt;have c5:=D.lst.lt (g:=q) rfl;have c4:=D.keys.lt (g:=gk) rfl;have a0:OS prog (.iface 175 (.pointer (some ⟨n,0,none⟩))) 95 175 #[.pointer (some ⟨n,0,none⟩),.bool true]:=fun _=>Yb
 have HH:=hZ h;have aV:=hZ h.wat.blk;have bN:=hZ D.blk;have bO:=hZ D.keys;have bP:=hZ D.lst;have aW:=hZ a8;have Z:=UD (((Ag (A8 t (B++[s]))).nodes:Int)=(Ag t).nodes-(Ag u).nodes/\((Ag (A8 t (B++[s]))).bytes:Int)=(Ag t).bytes-((Ag u).bytes+s.size)) ⟨Zj,Zj⟩
 have bL:=UD (∀K,w.heap.size<=K.heap.size->Nh K n (.slice (some ⟨q,0,none⟩) vs.length cv) (.slice (some ⟨gk,0,none⟩) ks.length ck)) fun K hz=>⟨Zj,fun g hg=>by
  simp[Vl.ownBlock]at hg;subst hg
  exact⟨Zj,aM.1,by simp[Vl.ownBlock];exact fun e=>aM.2.2 e.symm⟩,fun g hg=>by
  simp[Vl.ownBlock]at hg;subst hg
  exact⟨Zj,aM.2.1⟩⟩
 rw[JF ai];obtain⟨m,C⟩:=Ue B.length
 rw[<-C]at aZ ar aY a5 b8 b0|-;obtain⟨N,hN⟩:=Ue ((Ag t).nodes)
 obtain⟨BB,aA⟩:=Ue ((Ag t).bytes)
 obtain⟨su,aQ⟩:=Ue (Ag u)
 rw[<-hN,<-aA]at aV be;rw[<-hN,<-aA,<-aQ]at Z;rw[<-aQ]at aX bf;obtain⟨t1,t2,t3⟩:=be;obtain⟨s1,s2,s3⟩:=bf;have t4:su.nodes<=N:=by have:=Z.o.1;omega
 have t5:su.bytes+s.size<=BB:=by have:=Z.o.2;omega
 clear h aL ai S D bc hu al aP af X q2 b6 C aa bY cd ca bd aB hl aK a9 ba ap aJ M q6 q7 a8 hcut hN aA aQ b7 ao aI aH aF hh aG ag aC aO a6 aj;go_enter func167,ntmps167
 go_wp2_with(first
  |(go_at_call 170;refine(aZ.o _ (by exact cg cR)).mono ?_;rintro e w1 ⟨rfl,R⟩;have H1:=UD (Chg w w1 []) (ct cR R);have B1:=UD (Ac w1 w.heap.size Ef 42) ((Ac.new w Ef 42).kept R);obtain⟨f,args,m1,J⟩:=aX.o w1 H1.o;have HM:=hZ m1;have HC:=hZ J;clear R m1 J)
  |(refine Am rfl _ _ _ rfl _ rfl f args HM.o _ HC.o ?_;rintro e w2 ⟨rfl,Q⟩;refine⟨_,rfl, ?_⟩;have H2:=UD (Chg w w2 []) (H1.o.trans Q);have B2:=UD (Ac w2 w.heap.size Ef 42) (B1.o.kept Q);unfold Jv;have e0:=H2.o.keeps a5;clear Q)
  |(go_at_call 201;refine(ar.o _ (by exact cg H2.o)).mono ?_;rintro e w3 ⟨rfl,h3⟩;have H3:=UD (Chg w w3 []) (ct H2.o h3);have B3:=UD (Ac w3 w.heap.size Ef 42) (B2.o.kept h3);clear h3)
  |(go_at_call 197;refine(bM.o _ (by exact cg H3.o)).mono ?_;rintro e am ⟨rfl,h4⟩;have bJ:=UD (Chg w am []) (ct H3.o h4);have bI:=UD (Ac am w.heap.size Ef 42) (B3.o.kept h4);clear h4))
 obtain⟨K,aR⟩:=Ue am.drew
 have bR:=hZ aR;have aU:Hid (Chg am K []):=by rw[aR];exact hZ ((Chg.refl am []).drew)
 have Y:=UD (Chg w K []) (bJ.o.trans aU.o);have B4:=UD (Ac K w.heap.size Ef 42) (bI.o.kept aU.o);have ch:=Y.o.size;have ah:=bL.o K ch;have p1:=bN.o.kept Y.o;have p2:=bO.o.kept Y.o;have p3:=bP.o.kept Y.o
 have a4:∀f,OQ K n pi (ks.length-1) (vs.length-1) (.slice (some ⟨q,0,none⟩) vs.length cv) (.slice (some ⟨gk,0,none⟩) ks.length ck) ks (ks.eraseIdx pi) vs (vs.eraseIdx pi) (fun _=>false) f K:=fun f=>
  ⟨Chg.refl _ _,(fun _ e=>by cases e),(fun e=>by cases e),(fun e=>by cases e),(fun e=>by cases e),(fun e=>by cases e),fun _=>p1,(fun e=>by cases e),(fun e=>by cases e),fun _=>p2,fun _=>p3,(fun e=>by cases e),(fun e=>by cases e)⟩
 clear aR;refine wp_region_any Yb ?_;change wpAny _ _ _ _ _ _ _ (World.drew _);rw[<-bR.o];refine Gy _ (OQ K n pi (ks.length-1) (vs.length-1) (.slice (some ⟨q,0,none⟩) vs.length cv) (.slice (some ⟨gk,0,none⟩) ks.length ck) ks (ks.eraseIdx pi) vs (vs.eraseIdx pi)) Yb ?_ ?_ _ ?_
 .intro ii op a wa dd k I O r d K p
  match ii,k with
  |0,k=>
   obtain rfl:=Q5 k;have ax:a.tmps.getD 14 undef= .pointer (some ⟨n,0,none⟩):=I.at 14 Yb;go_simp
   exact p _ _ Zh (d.plain ZM ZM ZM ZM (by simp[Ed]) cR)
  |1,k=>
   obtain rfl:=Q5 k;have ax:a.tmps.getD 14 undef= .pointer (some ⟨n,0,none⟩):=I.at 14 Yb;go_simp
   exact p _ _ Zh (d.plain ZM ZM ZM ZM (by simp[Ed]) cR)
  |2,k=>
   obtain rfl:=Q5 k;have ax:a.tmps.getD 14 undef= .pointer (some ⟨n,0,none⟩):=I.at 14 Yb;go_simp
   exact p _ _ Zh (d.plain ZM ZM ZM ZM (by simp[Ed]) cR)
  |3,k=>
   obtain rfl:=Q5 k;have cx:a.tmps.getD 56 undef= .pointer (some ⟨n,0,none⟩):=d.vals 2 (r ⟨2,.data⟩ Zh rfl);go_simp
   exact p _ _ Zh (d.plain ZM ZM ZM ZM (by simp[Ed]) cR)
  |4,k=>
   obtain rfl:=Q5 k;have cy:a.tmps.getD 57 undef= .pointer (some ⟨n,0,none⟩):=d.vals 3 (r ⟨3,.data⟩ Zh rfl);go_simp
   exact p _ _ Zh (d.plain ZM ZM ZM ZM (by simp[Ed]) cR)
  |5,k=>
   obtain rfl:=Q5 k;have cz:a.tmps.getD 58 undef= .pointer (some ⟨n,1,none⟩):=d.vals 4 (r ⟨4,.data⟩ Zh rfl)
   have aw:dd 21=false:=by
    cases e:dd 21 with
    |false=>rfl
    |true=>have az:=d.o21 e;have h:=d.o9 (d.o18 az).1;rw[O]at h;cases h
   have E:=d.blk0 aw;have V:=E.cell 1;simp only[Qa,Qb]at V;go_simp
   exact p _ _ Zh (d.plain ZM ZM ZM ZM (by simp[Ed]) cR)
  |6,k=>
   obtain rfl:=Q5 k;have ay:a.tmps.getD 15 undef= .int .i64 pi:=I.at 15 Yb;go_simp
   exact p _ _ Zh (d.plain ZM ZM ZM ZM (by simp[Ed]) cR)
  |7,k=>
   obtain rfl:=Q5 k;have ay:a.tmps.getD 15 undef= .int .i64 pi:=I.at 15 Yb;go_simp
   exact p _ _ Zh (d.plain ZM ZM ZM ZM (by simp[Ed]) cR)
  |8,k=>
   obtain rfl:=Q5 k;have cC:a.tmps.getD 61 undef= .int .i64 pi:=d.vals 7 (r ⟨7,.data⟩ Zh rfl);have aS:IntKind.i64.wrap ((pi:Int)+1)=(pi:Int)+1:=IntWalk.i64_in _ Zj;go_simp
   exact p _ _ Zh (d.plain ZM ZM ZM ZM (by simp[Ed,aS]) cR)
  |9,k=>
   obtain rfl:=Q5 k;have d5:=r ⟨5,.data⟩ Zh rfl;have cA:a.tmps.getD 59 undef= .slice (some ⟨gk,0,none⟩) ks.length ck:=d.vals 5 d5;have cB:a.tmps.getD 60 undef= .int .i64 pi:=d.vals 6 (r ⟨6,.data⟩ Zh rfl);have cD:a.tmps.getD 62 undef= .int .i64 (pi+1):=d.vals 8 (r ⟨8,.data⟩ Zh rfl);have bW:=d.keys0 O;go_simp
   go_at_call 202;refine(QD gk ck pi ks wa bW b4).mono ?_;rintro e w1 ⟨rfl,J,T⟩;exact p _ _ Zh (d.call9 ah O d5 J T rfl)
  |10,k=>
   obtain rfl:=Q5 k;have ax:a.tmps.getD 14 undef= .pointer (some ⟨n,0,none⟩):=I.at 14 Yb;go_simp
   exact p _ _ Zh (d.plain ZM ZM ZM ZM (by simp[Ed]) cR)
  |11,k=>
   obtain rfl:=Q5 k;have cF:a.tmps.getD 64 undef= .pointer (some ⟨n,0,none⟩):=d.vals 10 (r ⟨10,.data⟩ Zh rfl);go_simp
   exact p _ _ Zh (d.plain ZM ZM ZM ZM (by simp[Ed]) cR)
  |12,k=>
   obtain rfl:=Q5 k;have cG:a.tmps.getD 65 undef= .pointer (some ⟨n,0,none⟩):=d.vals 11 (r ⟨11,.data⟩ Zh rfl);go_simp
   exact p _ _ Zh (d.plain ZM ZM ZM ZM (by simp[Ed]) cR)
  |13,k=>
   obtain rfl:=Q5 k;have cH:a.tmps.getD 66 undef= .pointer (some ⟨n,0,none⟩):=d.vals 12 (r ⟨12,.data⟩ Zh rfl);go_simp
   exact p _ _ Zh (d.plain ZM ZM ZM ZM (by simp[Ed]) cR)
  |14,k=>
   obtain rfl:=Q5 k;have cI:a.tmps.getD 67 undef= .pointer (some ⟨n,0,none⟩):=d.vals 13 (r ⟨13,.data⟩ Zh rfl)
   have aw:dd 21=false:=by
    cases e:dd 21 with
    |false=>rfl
    |true=>have az:=d.o21 e;have h:=(d.o18 az).2;rw[O]at h;cases h
   have E:=d.blk0 aw;have V:=E.cell 0;simp only[Qa,Qb]at V;go_simp
   exact p _ _ Zh (d.plain ZM ZM ZM ZM (by simp[Ed]) cR)
  |15,k=>
   obtain rfl:=Q5 k;have ay:a.tmps.getD 15 undef= .int .i64 pi:=I.at 15 Yb;go_simp
   exact p _ _ Zh (d.plain ZM ZM ZM ZM (by simp[Ed]) cR)
  |16,k=>
   obtain rfl:=Q5 k;have ay:a.tmps.getD 15 undef= .int .i64 pi:=I.at 15 Yb;go_simp
   exact p _ _ Zh (d.plain ZM ZM ZM ZM (by simp[Ed]) cR)
  |17,k=>
   obtain rfl:=Q5 k;have cL:a.tmps.getD 70 undef= .int .i64 pi:=d.vals 16 (r ⟨16,.data⟩ Zh rfl);have aS:IntKind.i64.wrap ((pi:Int)+1)=(pi:Int)+1:=IntWalk.i64_in _ Zj;go_simp
   exact p _ _ Zh (d.plain ZM ZM ZM ZM (by simp[Ed,aS]) cR)
  |18,k=>
   obtain rfl:=Q5 k;have a1:=r ⟨14,.data⟩ Zh rfl;have d9:=r ⟨9,.chain⟩ Zh rfl;have cJ:a.tmps.getD 68 undef= .slice (some ⟨q,0,none⟩) vs.length cv:=d.vals 14 a1;have cK:a.tmps.getD 69 undef= .int .i64 pi:=d.vals 15 (r ⟨15,.data⟩ Zh rfl);have cM:a.tmps.getD 71 undef= .int .i64 (pi+1):=d.vals 17 (r ⟨17,.data⟩ Zh rfl);have bX:=d.items0 O;go_simp
   go_at_call 203;refine(NV q cv pi vs wa b3 bX b5).mono ?_;rintro e w1 ⟨rfl,J,T⟩;exact p _ _ Zh (d.call18 ah O d9 a1 J T rfl)
  |19,k=>
   obtain rfl:=Q5 k;have cu:a.tmps.getD 54 undef= .pointer (some ⟨n,0,none⟩):=d.vals 0 (r ⟨0,.data⟩ Zh rfl);go_simp
   exact p _ _ Zh (d.plain ZM ZM ZM ZM (by simp[Ed]) cR)
  |20,k=>
   obtain rfl:=Q5 k;have cO:a.tmps.getD 73 undef= .pointer (some ⟨n,0,none⟩):=d.vals 19 (r ⟨19,.data⟩ Zh rfl);go_simp
   exact p _ _ Zh (d.plain ZM ZM ZM ZM (by simp[Ed]) cR)
  |21,k=>
   obtain rfl:=Q5 k;have a2:=r ⟨18,.chain⟩ Zh rfl;have cP:a.tmps.getD 74 undef= .pointer (some ⟨n,1,none⟩):=d.vals 20 (r ⟨20,.data⟩ Zh rfl);obtain⟨g,au,X,q2,q3⟩:=d.r9 (d.o18 a2).1;have cE:a.tmps.getD 63 undef= .slice (some ⟨g,0,none⟩) (ks.length-1) au:=X;have E:=d.blk0 O;have V:=E.cell 1;have b2:=E.frozen 1;simp only[Qa,Qb]at V;have ak:=d.store21 ah O a2;rw[X]at ak;go_simp
   exact p _ _ Zh ak
  |22,k=>
   obtain rfl:=Q5 k;have cw:a.tmps.getD 55 undef= .pointer (some ⟨n,0,none⟩):=d.vals 1 (r ⟨1,.data⟩ Zh rfl);go_simp
   exact p _ _ Zh (d.plain ZM ZM ZM ZM (by simp[Ed]) cR)
  |23,k=>
   obtain rfl:=Q5 k;have cQ:a.tmps.getD 75 undef= .pointer (some ⟨n,0,none⟩):=d.vals 22 (r ⟨22,.data⟩ Zh rfl);go_simp
   exact p _ _ Zh (d.plain ZM ZM ZM ZM (by simp[Ed]) cR)
  |24,k=>
   obtain rfl:=Q5 k;have cS:a.tmps.getD 76 undef= .pointer (some ⟨n,0,none⟩):=d.vals 23 (r ⟨23,.data⟩ Zh rfl);go_simp
   exact p _ _ Zh (d.plain ZM ZM ZM ZM (by simp[Ed]) cR)
  |25,k=>
   obtain rfl:=Q5 k;have av:=r ⟨21,.chain⟩ Zh rfl;have cT:a.tmps.getD 77 undef= .pointer (some ⟨n,0,none⟩):=d.vals 24 (r ⟨24,.data⟩ Zh rfl);obtain⟨g,au,X,q2,q3⟩:=d.r18 (d.o21 av);have cN:a.tmps.getD 72 undef= .slice (some ⟨g,0,none⟩) (vs.length-1) au:=X;have E:=d.blk1 av O;have V:=E.cell 0;have b2:=E.frozen 0;simp only[Qa,Qb]at V;have ak:=d.store25 ah O av;rw[X]at ak;go_simp
   exact p _ _ Zh ak
  |_+26,k=>exact absurd k Zh
 .intro a H dd I hd d
  obtain⟨cq,U,f1,f2,f3⟩:=d.r9 (hd 9 ZM);obtain⟨cr,ad,g1,g2,g3⟩:=d.r18 (hd 18 ZM);have E:=d.blk2 (hd 25 ZM);rw[f1,g1]at E;simp[Vl.ownBlock]at f3 g3;subst f3 g3;have b1:U=U:=rfl;have aq:Chg K H [n,gk,q]:=d.chg;obtain⟨f4,f5⟩:True/\True:=⟨trivial,trivial⟩;have cl:=hZ E;have cm:=hZ f2;have cn:=hZ g2;have HR:=UD (Chg w H [n,gk,q]) ((Y.o.none _).trans aq);obtain⟨P,an,m1,m2,aT,m4,m5,m6⟩:=bQ.o H U ad HR.o E g2 f2;have bS:=hZ aT;have m3:DJ w (W::bs) (W::(P++an)):=(DJ.refl HH.o.nodup).count aT;have aE:W∉P++an:=(List.nodup_cons.1 m3.nodup).1;have M1:=hZ m1;have M2:=hZ m2;have M3:=hZ m3;have M5:=hZ m5;have B5:=UD (Ac H w.heap.size Ef 42) (B4.o.kept aq (by simp;omega));have W5:=hZ (aV.o.kept HR.o (by simp;omega));have bT:=W5.o.cell 1;have bU:=W5.o.cell 2;have cp:∀j,H.frozen? ⟨W,j,none⟩=false:=fun j=>W5.o.frozen j
  have c2:=W5.o.lt;simp only[Qa,Qb]at bT bU;have e5:=((Y.o.none [n,gk,q]).trans aq);clear d f1 f2 g1 g2 E aq m1 m2 m3 aT m4 m5 m6 hd a4 ah p1 p2 p3 f4 f5 b1 e5;have ae:=I.form' [54,55,56,57,58,59,60,61,62,63,64,65,66,67,68,69,70,71,72,73,74,75,76,77] Yb;have a7:=I.defers;obtain⟨A,df⟩:=a;clear I
  dsimp only at ae a7
  simp only[List.foldl_cons,List.foldl_nil]at ae;obtain⟨u54,bg⟩:=Ue (A.getD 54 undef)
  obtain⟨u55,bh⟩:=Ue (A.getD 55 undef)
  obtain⟨u56,bi⟩:=Ue (A.getD 56 undef)
  obtain⟨u57,bj⟩:=Ue (A.getD 57 undef)
  obtain⟨u58,bk⟩:=Ue (A.getD 58 undef)
  obtain⟨u59,bl⟩:=Ue (A.getD 59 undef)
  obtain⟨u60,bm⟩:=Ue (A.getD 60 undef)
  obtain⟨u61,bn⟩:=Ue (A.getD 61 undef)
  obtain⟨u62,bo⟩:=Ue (A.getD 62 undef)
  obtain⟨u63,bq⟩:=Ue (A.getD 63 undef)
  obtain⟨u64,br⟩:=Ue (A.getD 64 undef)
  obtain⟨u65,bt⟩:=Ue (A.getD 65 undef)
  obtain⟨u66,bv⟩:=Ue (A.getD 66 undef)
  obtain⟨u67,bw⟩:=Ue (A.getD 67 undef)
  obtain⟨u68,bx⟩:=Ue (A.getD 68 undef)
  obtain⟨u69,bz⟩:=Ue (A.getD 69 undef)
  obtain⟨u70,bA⟩:=Ue (A.getD 70 undef)
  obtain⟨u71,bB⟩:=Ue (A.getD 71 undef)
  obtain⟨u72,bC⟩:=Ue (A.getD 72 undef)
  obtain⟨u73,bD⟩:=Ue (A.getD 73 undef)
  obtain⟨u74,bE⟩:=Ue (A.getD 74 undef)
  obtain⟨u75,bF⟩:=Ue (A.getD 75 undef)
  obtain⟨u76,bG⟩:=Ue (A.getD 76 undef)
  obtain⟨u77,bH⟩:=Ue (A.getD 77 undef)
  rw[<-bg,<-bh,<-bi,<-bj,<-bk,<-bl,<-bm,<-bn,<-bo,<-bq,<-br,<-bt,<-bv,<-bw,<-bx,<-bz,<-bA,<-bB,<-bC,<-bD,<-bE,<-bF,<-bG,<-bH]at ae;clear bg bh bi bj bk bl bm bn bo bq br bt bv bw bx bz bA bB bC bD bE bF bG bH;simp only[List.setIfInBounds_toArray,List.set_cons_zero,List.set_cons_succ]at ae;subst ae;subst a7
  go_wp2_with(first
   |(go_at_call 196;refine(aY.o _ P (by exact((HR.o.mono (cs:=[W,n,gk,q]) (fun _ _ C=>Qg _ C)).setCell _ _ Zh).setCell _ _ Zh) (by exact M1.o.chg (cs:=[W]) (((Chg.refl _ [W]).setCell _ _ Zh).setCell _ _ Zh) (fun y z C=>by simp at z;subst z;exact aE (Qe _ C)))).mono ?_;rintro e w6 h5;obtain⟨c6,ys,G,rfl,J,T⟩:=h5.at;have K1:=hZ J;have K2:=hZ T;obtain⟨sa,sc,rfl,_⟩:=J.row.form;clear h5 J T)
   |(refine Ae rfl _ _ _ rfl w.heap.size (BJ (AC 1 (B++[s]) (Ai u)) (.slice sa (AC 1 (B++[s]) (Ai u)).steps.length sc)) ZN ZN 42 Ef (by exact((B5.o.set_other _ _ (by simp only;omega)).set_other _ _ (by simp only;omega)).kept K2.o) A0 rfl (Dx _ _ _ _) ?_;intro w7 ci a3 bb;have bK:=hZ a3;have ab:=hZ bb;clear ci a3 bb))
  have cf:=HR.o.size;have aD:Chg H w6 [W]:=Chg.trans (b:=_) (((Chg.refl _ [W]).setCell _ _ Zh).setCell _ _ Zh) (K2.o.none _);have bZ:Chg w w6 [W,n,gk,q]:=(HR.o.mono (fun _ _ C=>Qg _ C)).trans (aD.mono (fun _ _ C=>by simp at C;simp[C]));have bV:Chg w w7 [W,n,gk,q]:=bZ.step ab.o (fun i hi hl=>by simp at hi;omega);have hk:=K1.o.kept (w0:=w) ab.o (fun b hb=>by simp at hb;subst hb;simpa using B5.o.lt) (by simpa using cf)
  have aN:∀y,y∈W::(P++an)->y<w.heap.size:=fun y z=>by
   have R:=List.count_pos_iff.2 z;have Q:=bS.o y
   rcases Qh.1 (List.count_pos_iff.1 (Q6 R Q))with h|h
   .omega
   .exact AP.lt _ _ _ HH.o.wat.at_ _ h
  refine bodyPost_ret (Hh rfl _ _ w.heap.size 42 (BJ (AC 1 (B++[s]) (Ai u)) (.slice sa (AC 1 (B++[s]) (Ai u)).steps.length sc)) _ rfl bK.o underlying42 rfl A0) rfl ?_;rw[JH]at Z aW|-;refine⟨.iface tu xu,P,.iface tv xv,an,_,ys,G,rfl,hk, ?_,⟨?_, ?_,aW.o⟩,M3.o,bV.mono (fun _ _ C=> ?_),fun b hb hG=> ?_⟩
  .exact(M1.o.chg aD (fun y z C=>by simp at z;subst z;exact aE (Qe _ C))).chg ab.o (fun y z C=>by simp at z;subst z;exact Nat.lt_irrefl _ (aN _ (Qg _ (Qe _ C))))
  .have e1:=Z.o.1
   have e2:=Z.o.2;have hb:=((W5.o.set 1 (.int .i64 (N-su.nodes))).set 2 (.int .i64 (BB-(su.bytes+s.size))));rw[e1,e2];exact(hb.kept K2.o).kept ab.o (by simp;omega)
  .exact(M2.o.chg aD (fun y z C=>by simp at z;subst z;exact aE (Qd _ C))).chg ab.o (fun y z C=>by simp at z;subst z;exact Nat.lt_irrefl _ (aN _ (Qg _ (Qd _ C))))
  .simp at C
   rcases C with rfl|rfl|rfl|rfl
   .simp
   .exact Qg _ (M5.o _ Zh)
   .exact Qg _ (M5.o _ Zh)
   .exact Qg _ (M5.o _ Zh)
  .have R:=(hk.new b hG).1
   have Q:=aN b hb;omega
 .exact a4 _
theorem Xw(W:Nat)(t:Tr)(v e:Vl)(bs:List Nat)(F:Nat->Prop)(a:Option Addr)(c:Nat)(ts:List BY)(w:Wl)(h:UI W t v e bs F (.slice a ts.length c) ts w)(g:ts≠[]):
  Cl prog 167 #[.pointer (some ⟨W,0,none⟩),.slice a ts.length c] w (EC W e (W::bs) t ts w):=by
 cases b:Ah t ts with
 |none=>
  rw[JE b];exact RJ W t v e bs F a _ c ts w _ h.laid h.wat h.tat b
 |some u=>
  obtain⟨d,s,rfl⟩:∃d s,ts=d++[s]:=⟨ts.dropLast,ts.getLast g,(List.dropLast_concat_getLast g).symm⟩
  have j:(d++[s]).length=d.length+1:=Zh
  rw[j]at h|-;rw[BW]at b
  cases f:Ah t d with
  |none=>rw[f]at b;simp at b
  |some p=>
   rw[f]at b;simp only[Option.bind_some]at b;by_cases i:AX p=true
   .rw[Md i]at b;cases b
   .cases p with
    |list l=>exact RI W t u v e bs F a c d s w l h f b
    |obj ks l=>exact TD W t u v e bs F a c d s w ks l h f b
    |_=>simp[AX]at i
end
section
open Go Go.Shelf Go.RowKit Go.Lib Tree Ptr
structure EW(w0 w':Wl)(os:List Bq)(sl:Vl)(xs:List Vl)(G:Nat->Prop):Prop where
 row:As w' sl 4 os.length xs
 inn:SE G sl
 ops:Eh w' G os xs
 new:∀b,G b->w0.heap.size<=b/\b<w'.heap.size
theorem EW.none(w0 w:Wl):EW w0 w [] (.slice Option.none 0 0) [] (fun _=>False):=
 ⟨⟨Option.none,0,rfl,Q8 _,rfl,fun i v a=>by simp at a⟩,(fun b o n c e=>by injection e with e;cases e),rfl,fun _ h=>False.elim h⟩
theorem EW.kept{w0 g w2 c:Wl}{os:List Bq}{f:Vl}{xs:List Vl}{G:Nat->Prop}{cs:List Nat}(h:EW g w2 os f xs G)(d:Chg w2 c cs)(i:∀b,b∈cs->¬G b)(j:w0.heap.size<=g.heap.size):EW w0 c os f xs G:=by
 have e:BZ G w2 c:=d.keepsF (fun b a=>(h.new b a).2) i;exact⟨h.row.keptF h.inn e,h.inn,h.ops.kept e (fun _ h=>h),fun b a=>by have:=h.new b a;have:=d.size;omega⟩
theorem EW.one{w0 d w2:Wl}{o:Bq}{sv:Vl}{ys:List Vl}{G:Nat->Prop}{g:Nat}(h:Dr w0 d o sv ys G)(l:w0.heap.size<=d.heap.size)(j:Chg d w2 [])(f:Ac w2 g (BJ o sv) 42)(m:d.heap.size<=g):
  EW w0 w2 [o] (.slice (some ⟨g,0,Option.none⟩) 1 1) (BJ o sv) (fun b=>b=g\/G b):=by
 have q:=j.size;have k:BZ G d w2:=j.keepsF (fun b a=>(h.new b a).2);refine⟨⟨_,_,rfl,Q8 _,by simp[BJ],fun i v p=>⟨g,0,rfl,by rw[Nat.zero_add,f.cell i];exact p⟩⟩,(fun b o n c e=>by injection e with e;injection e with e;injection e with e;exact .inl e.symm), ?_, ?_⟩
 .exact⟨sv,ys,[],Zh,h.row.keptF h.inn k,h.inn.mono (fun b a=> .inr a),h.steps.kept k (fun b a=> .inr a),rfl⟩
 .rintro b (rfl|a)
  .have:=f.lt
   exact⟨Q7 l m,f.lt⟩
  .have:=h.new b a;omega
def BC(W:Nat)(h:Vl)(c:List Nat)(r:PV)(w:Wl)(e:Ending)(w':Wl):Prop:=match r with
 | .no n=>AZ n c w e w'
 | .yes f g=>∃i a d xs G,e= .returned d/\EW w w' (g.reverse.map CW.toI) d xs G/\Hu w' W f i h a/\DJ w c (W::a)/\Chg w w' c/\∀b,b∈W::a->¬G b
theorem Sx.kept{W:Nat}{t x:Tr}{v d e:Vl}{bs b:List Nat}{F:Nat->Prop}{c:Vl}{ts:List BY}{w w':Wl}(h:Sx W t x v d e bs b F c ts w)(a:Chg w w' []):Sx W t x v d e bs b F c ts w':=
 ⟨h.laid.kept a,h.wat.kept a,h.xat.chg a Zh,h.xfine,h.tat.kept a,h.nodup,h.big,h.apart⟩
theorem UI.kept{W:Nat}{t:Tr}{v c:Vl}{bs:List Nat}{F:Nat->Prop}{b:Vl}{ts:List BY}{w w':Wl}(h:UI W t v c bs F b ts w)(a:Chg w w' []):UI W t v c bs F b ts w':=
 ⟨h.laid.kept a,h.wat.kept a,h.tat.kept a,h.nodup,h.big,h.apart⟩
theorem Hz{W:Nat}{b:Vl}{a:List Nat}{w:Wl}{n:Nat}:BC W b a (.no n) w=AZ n a w:=rfl
theorem GC{W:Nat}{o:Vl}{j:List Nat}{n:Tr}{r:CW}{w e w2 k:Wl}{p sv:Vl}{a:List Nat}{ys:List Vl}{G:Nat->Prop}{g:Nat}(l:Chg w e [])(c:Dr e w2 r.toI sv ys G)(i:Hu w2 W n p o a)(t:DJ e j (W::a))(m:Chg e w2 j)(s:∀b,b∈W::a->¬G b)(q:Ac k g (BJ r.toI sv) 42)(u:w2.heap.size<=g)(f:Chg w2 k []):BC W o j (.yes n [r]) w (.returned (.slice (some ⟨g,0,none⟩) 1 1)) k:=by
 have v:=l.size;have x:=m.size;refine⟨p,a,_,_,_,rfl,EW.one (w0:=w) ⟨c.row,c.inn,c.steps,fun b d=>by have:=c.new b d;omega⟩ Zj f q u,i.kept f,t.back v,(l.none _).trans (m.trans (f.none _)),fun b d=> ?_⟩;rintro(rfl|h)
 .rcases Qh.1 d with h|h
  .have:=i.blk.lt;omega
  .have:=AP.lt _ _ _ i.at_ _ h;omega
 .exact s b d h
end
section
open _root_.Go.Proofs.Tryz
open Go Go.Shelf Go.RowKit Go.Lib Tree Ptr
theorem YG(W:Nat)(t x:Tr)(v j n:Vl)(bs d:List Nat)(F:Nat->Prop)(a:Option Addr)(c:Nat)(ts:List BY)(k:Int)(p f:BY)(sv N:Vl)(w:Wl)(h:Sx W t x v j n bs d F (.slice a ts.length c) ts w):
  Cl prog 128 #[.pointer (some ⟨W,0,none⟩),.agg #[.int .i64 k,.string p,.string f,sv,.slice a ts.length c,N,n]] w (BC W j (W::(d++bs)) (Ga t ts x []) w):=by
 have g:=UD (∀b,Chg w b []->Cl prog 166 #[.pointer (some ⟨W,0,none⟩),.slice a ts.length c,n] b (Cq W j (W::(d++bs)) t x ts b)) fun b K=>Xo W t x v j n bs d F a c ts b (h.kept K)
 obtain⟨S,U,rfl⟩:=h.xat.iface;clear h;unfold Ga;by_cases i:EN t ts≠0
 .rw[Qr i,Hz]
  rw[show Cq W j (W::(d++bs)) t (x:=x) ts=fun b=>AZ (EN t ts) (W::(d++bs)) b from funext fun b=>LG rfl i]at g;go_enter func128,ntmps128
  go_wp2_with(first
   |(go_at_call 166;refine(g.o _ (by exact cg cR)).mono ?_;rintro e w2 ⟨l,h⟩;unfold By at l;subst l;have o:=UD (Chg w w2 (W::(d++bs))) (ct cR h);clear h))
  exact⟨rfl,rfl,o.o⟩
 .rw[Qs i]
  have i:EN t ts=0:=by simpa using i
  unfold Kj;by_cases m:(Ag (At t ts x)).within=true
  .rw[Qr m]
   rw[show Cq W j (W::(d++bs)) t (x:=x) ts=fun b=>ET W j (W::(d++bs)) (At t ts x) (Dd t ts).toI b from funext fun b=>LS i m]at g;obtain⟨r,u⟩:=Ue (Dd t ts)
   obtain⟨R,y⟩:=Ue (At t ts x)
   rw[<-u,<-y]at g|-;obtain⟨P,s⟩:=Ue r.toI
   rw[<-s]at g;clear u y m i;go_enter func128,ntmps128
   go_wp2_with(first
    |(go_at_call 166;refine(g.o _ (by exact cg cR)).mono ?_;rintro e w2 ⟨T,O,Q,ys,G,rfl,q,z,A,B,C⟩;have D:=hZ q;have E:=hZ z;have H:=hZ A;have I:=hZ B;have J:=hZ C;obtain⟨L,M,rfl,_⟩:=q.row.form;clear q z A B C;unfold BJ))
   refine bodyPost_ret (results_tmp rfl _ _ _) rfl ?_;subst s;exact GC (by exact cg cR) D.o E.o H.o I.o J.o (Ac.new w2 (BJ r.toI (.slice L r.toI.steps.length M)) 42) (Q8 _) (by exact cg cR)
  .rw[Qs m,Hz]
   rw[show Cq W j (W::(d++bs)) t (x:=x) ts=fun b=>AZ 3 (W::(d++bs)) b from funext fun b=>Hv i (by simpa using m)]at g;go_enter func128,ntmps128
   go_wp2_with(first
    |(go_at_call 166;refine(g.o _ (by exact cg cR)).mono ?_;rintro e w2 ⟨l,h⟩;unfold By at l;subst l;have o:=UD (Chg w w2 (W::(d++bs))) (ct cR h);clear h))
   exact⟨rfl,rfl,o.o⟩
end
end Go.Proofs.YtkfnkppdhcaeoaaGreatDoor

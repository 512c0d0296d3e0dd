/- Part 21 of the proof of backBase. -/
import Derived.Test.YtkfnkppdhcaeoaaGreatDoorM20
set_option maxRecDepth 100000
set_option maxHeartbeats 32000000
set_option linter.all false
namespace Go.Proofs.YtkfnkppdhcaeoaaGreatDoor
open Go renaming Calls->Cl,TypeId->Ti,Value->Vl,World->Wl
section
open _root_.Go.Proofs.Tryz
open Go Go.Shelf Go.RowKit Go.Lib Tree Ptr
theorem Hh{P:Program}{c:Func}{p q:Tmp}{b:Ti}(h:c.results=#[.tmp q,.cell p b])(a:Array Vl)(w:Wl)(g:Nat)(T:Ti)(cs:List Vl)(d:TypeDesc)(i:a.getD p undef= .pointer (some ⟨g,0,none⟩))(e:Ac w g cs T)(l:P.underlying b=some d)(f:(match d with| .struct _| .array _ _=>true|_=>false)=true)(hi:(P.info? b).map (·.size)=some cs.length):
  (results c a).run P w= .ok (.tuple #[a.getD q undef,.agg cs.toArray]) w:=by
 have j:a[p]?.getD undef= .pointer (some ⟨g,0,none⟩):=by simpa using i
 have k:=run_loadVar_row (P:=P) w g T b cs.toArray (0,0) d e l f (by simpa using hi);simp[results,h,j,asAddr,k]
def T6(W:Nat)(h:Vl)(d:List Nat)(g u:Tr)(o:Bq)(w:Wl)(e:Ending)(w':Wl):Prop:=
 ∃f c i a sv ys G,e= .returned (.tuple #[f,.agg (BJ o sv).toArray])/\Dr w w' o sv ys G/\AP w' u f c/\Hu w' W g i h a/\DJ w d (W::(c++a))/\Chg w w' d/\∀b,b∈W::(c++a)->¬G b
def EC(W:Nat)(b:Vl)(a:List Nat)(t:Tr)(ts:List BY)(w:Wl)(e:Ending)(w':Wl):Prop:=match Ah t ts with
 |none=>AZ 4 a w e w'
 |some u=>T6 W b a (A8 t ts) u (AC 1 ts (Ai u)) w e w'
theorem JE{W:Nat}{b:Vl}{a:List Nat}{t:Tr}{ts:List BY}{w:Wl}(h:Ah t ts=none):EC W b a t ts w=AZ 4 a w:=by
 funext e w';unfold EC;rw[h]
theorem JF{W:Nat}{b:Vl}{a:List Nat}{t u:Tr}{ts:List BY}{w:Wl}(h:Ah t ts=some u):EC W b a t ts w=T6 W b a (A8 t ts) u (AC 1 ts (Ai u)) w:=by
 funext e w';unfold EC;rw[h]
structure UI(W:Nat)(t:Tr)(v uv:Vl)(bs:List Nat)(F:Nat->Prop)(sl:Vl)(ts:List BY)(w:Wl):Prop where
 laid:Br w
 wat:Hu w W t v uv bs
 tat:JC w F sl ts
 nodup:(W::bs).Nodup
 big:∀b,b∈W::bs->10<=b
 apart:∀b,b∈W::bs->¬F b
theorem JH(t:Tr)(a:List BY)(s:BY):A8 t (a++[s])=Bz (CT s) t a:=by
 unfold A8;rw[List.dropLast_concat,BE]
theorem RJ(W:Nat)(t:Tr)(v m:Vl)(bs:List Nat)(F:Nat->Prop)(a:Option Addr)(n c:Nat)(ts:List BY)(w:Wl)(l:List Nat)(d:Br w)(g:Hu w W t v m bs)(f:JC w F (.slice a n c) ts)(i:Ah t ts=none):
  Cl prog 167 #[.pointer (some ⟨W,0,none⟩),.slice a n c] w (AZ 4 l w):=by
 have k:=hZ (Im d g f i);clear d g f i;go_enter func167,ntmps167
 go_wp2_with(first
  |(go_at_call 170;refine(k.o _ (by exact cg cR)).mono ?_;rintro e o ⟨h,b⟩;unfold By at h;subst h;have j:=UD (Chg w o []) (ct cR b);clear b))
 exact⟨rfl,rfl,j.o.none _⟩
theorem RI(W:Nat)(t u:Tr)(v uv:Vl)(bs:List Nat)(F:Nat->Prop)(a:Option Addr)(c:Nat)(p:List BY)(s:BY)(w:Wl)(l:List Tr)(h:UI W t v uv bs F (.slice a (p.length+1) c) (p++[s]) w)(O:Ah t p=some (.list l))(an:Dy (.list l) s=some u):
  Cl prog 167 #[.pointer (some ⟨W,0,none⟩),.slice a (p.length+1) c] w (EC W uv (W::bs) t (p++[s]) w):=by
 obtain⟨pi,Y,hu⟩:=Rd an;have ao:p++[s]≠[]:=Zh
 have X:Ah t (p++[s])=some u:=by rw[BW,O];exact an
 obtain⟨b,o,rfl,af,aD,a7,bm,bn,a3⟩:=h.tat.last;have lb:=h.tat.lt b af;obtain⟨tv,xv,rfl⟩:=h.wat.at_.iface;obtain⟨vp,bp,rest,K⟩:=EU h.wat.at_ _ p _ rfl O;obtain⟨n,sv,vs,fs,rfl,z,U⟩:=K.at_.list;have a6:l.length<=65536:=by have:=(h.wat.fine.lead O).many;simp only[Ab]at this;omega
 have ba:pi<l.length:=Jf Y;obtain⟨vu,bu,Z,aq,aZ⟩:=z.at_.get hu;obtain⟨_,_,_,_,be,bg,r2,_,C,q6,q7,aF⟩:=Fx K.at_ (s:=s) (by simp only[D6];exact Y) hu;have aG:=K.snoc aF;obtain⟨Q,R,rfl⟩:=aq.iface;have aM:=z.at_.length
 obtain⟨g,r,rfl,bj⟩:∃g r,sv= .slice (some ⟨g,0,none⟩) vs.length r/\vs.length<=r:=by
  rcases z.lst.one with⟨_,e⟩|h
  .rw[e]at Z;simp at Z
  .exact h
 have bb:be= .iface Q R:=by
  unfold Jn at C
  injection C with _ C
  injection C with C
  injection C with C
  injection C with C
  subst C;have A:=z.blk.cell 0;simp only[Qa]at A;rw[q6]at A
  injection A with A
  injection A with A
  injection A with A
  injection A with A
  subst A;have e7:=z.lst.cell rfl pi _ Z;rw[q7]at e7;injection e7
 subst bb;have V:=h.wat.fine.lead X;have aK:=Ar h.wat.fine.fits;have aL:=Ar V.fits;obtain⟨q1,q2⟩:=R9 h.wat.fine ao X (by rw[List.dropLast_concat];exact O);have q2:(Ag (A8 t (p++[s]))).bytes+(Ag u).bytes+0=(Ag t).bytes:=q2;have aE:Bt (A8 t (p++[s])):=h.wat.fine.cut ao X;have a5:(p++[s]).length=p.length+1:=Zh
 have aA:=hZ (Dl h.laid h.wat h.tat aG);have ad:=hZ (Ud h.laid h.wat h.tat.init K);unfold Jn at ad;have ay:=UD (∀q,Chg w q []->JB (.iface Q R) (Ag u) q) fun q L=>MD _ u _ bu q (Q8 _) V.good V.fits (aq.chg L Zh)
 have aj:∀y,y∈bp->y∈bs:=fun y k=>K.perm.mem_iff.2 (Qe _ k)
 have al:g∈bs:=aj g (by rw[U];simp[Vl.ownBlock]);have ak:n∈bs:=aj n (by rw[U];simp);have ah:W∉bs:=(List.nodup_cons.1 h.nodup).1
 have aI:g≠n:=fun e=>by
  have I:=List.nodup_iff_count.1 h.nodup g;have D:=K.perm.count_eq g;rw[U,<-e]at D;simp only[List.count_cons,List.count_append,Vl.ownBlock,Option.toList_some,List.count_nil]at I D;simp at I D;omega
 have am:∀y,y∈[W,n,g]->y∈W::bs:=fun y k=>by simp at k;rcases k with rfl|rfl|rfl;simp;simp[ak];simp[al]
 have az:=UD (∀q H,Chg w q [W,n,g]->AP q u (.iface Q R) H->Cl prog 196 #[.int .i64 1,.slice (some ⟨b,o,none⟩) (p.length+1) c,.iface Q R] q (Et (AC 1 (p++[s]) (Ai u)) q)) fun q H L a9=>by
  have ht:=h.tat.kept L (fun y k=>h.apart y (am y k));exact DE 1 F _ (p++[s]) u _ H q (h.laid.kept L (fun y k=>h.big y (am y k))) ht.row ht.lt ht.ok ht.small V a9
 have c1:w.cell? ⟨n,0,none⟩=some (.slice (some ⟨g,0,none⟩) vs.length r):=z.blk.cell 0;have a8:=z.at_.one;have aJ:∀y∈vs,∃t x,y= .iface t x:=Ih z.at_
 have a4:pi<vs.length:=Zj
 have bo:vs.length<=65536:=Zj
 have aP:=UD (∀q,Chg w q []->Cl prog 149 #[.string s,.int .i64 vs.length] q (fun e w'=>e= .returned (.tuple #[.int .i64 pi,.bool true])/\Chg q w' [])) fun q L=>by
  have:=Gl s l.length q (h.laid.kept L) Zj Zj;unfold Je at this;rw[Y]at this;rw[aM];exact this
 have aO:=UD (∀q,Chg w q []->Cl prog 203 #[.slice (some ⟨g,0,none⟩) vs.length r,.int .i64 pi,.int .i64 (pi+1)] q (fun e w'=>e= .returned (.slice (some ⟨g,0,none⟩) (vs.length-1) r)/\AK w' (.slice (some ⟨g,0,none⟩) (vs.length-1) r) 95 (vs.eraseIdx pi)/\Chg q w' [g])) fun q L=>
  NV g r pi vs q aJ (z.lst.kept L) a4
 have hcut:CT s (.list l)= .list (l.eraseIdx pi):=by
  unfold CT;simp only[D6,Y]
 have aR:=UD (∀wR,Chg w wR [n,g]->Ac wR n [.slice (some ⟨g,0,none⟩) (vs.length-1) r] 107->AK wR (.slice (some ⟨g,0,none⟩) (vs.length-1) r) 95 (vs.eraseIdx pi)->OP w wR W (Bz (CT s) t p) u (.iface tv xv) (.iface Q R) bs [n,g]) fun wR B J k3=>
  Wo h.wat K z U h.nodup hu Z hcut B J k3
 have bi:b≠W:=fun e=>h.apart W Zh (by rw[<-e];exact af)
 have aX:W≠n:=fun e=>ah (by rw[e];exact ak)
 have aY:W≠g:=fun e=>ah (by rw[e];exact al)
 have lW:=h.wat.blk.lt;have br:=z.blk.lt;have lg:=z.lst.lt (g:=g) rfl;have aC:=z.blk;have a0:OS prog (.iface 104 (.pointer (some ⟨n,0,none⟩))) 95 175 #[.pointer none,.bool false]:=fun _=>Yb
 have a1:OS prog (.iface 104 (.pointer (some ⟨n,0,none⟩))) 95 104 #[.pointer (some ⟨n,0,none⟩),.bool true]:=fun _=>Yb
 have HH:=hZ h;have aw:=hZ h.wat.blk;have aQ:=hZ aC;have ax:=hZ aE;have M:=UD (((Ag (A8 t (p++[s]))).nodes:Int)=(Ag t).nodes-(Ag u).nodes/\((Ag (A8 t (p++[s]))).bytes:Int)=(Ag t).bytes-(Ag u).bytes) ⟨Zj,Zj⟩;rw[JF X];obtain⟨m,d⟩:=Ue p.length
 rw[<-d]at aA ad az aD a7 a3|-;obtain⟨N,hN⟩:=Ue ((Ag t).nodes)
 obtain⟨BB,ae⟩:=Ue ((Ag t).bytes)
 obtain⟨su,ar⟩:=Ue (Ag u)
 rw[<-hN,<-ae]at aw aK;rw[<-hN,<-ae,<-ar]at M;rw[<-ar]at ay aL;obtain⟨t1,t2,t3⟩:=aK;obtain⟨s1,s2,s3⟩:=aL;have t4:su.nodes<=N:=by have:=M.o.1;omega
 have t5:su.bytes<=BB:=by have:=M.o.2;omega
 clear h ao X K z Y hu Z aq V q1 q2 a5 d U aZ aM ba af O an aF aG aj am C q6 q7 aE a8 aJ hcut aC hN ae ar a6 ah al ak;go_enter func167,ntmps167
 go_wp2_with(first
  |(go_at_call 170;refine(aA.o _ (by exact cg cR)).mono ?_;rintro e w1 ⟨rfl,I⟩;have H1:=UD (Chg w w1 []) (ct cR I);have B1:=UD (Ac w1 w.heap.size Ef 42) ((Ac.new w Ef 42).kept I);obtain⟨f,args,P,B⟩:=ay.o w1 H1.o;have HM:=hZ P;have HC:=hZ B;clear I P B)
  |(refine Am rfl _ _ _ rfl _ rfl f args HM.o _ HC.o ?_;rintro e w2 ⟨rfl,D⟩;refine⟨_,rfl, ?_⟩;have H2:=UD (Chg w w2 []) (H1.o.trans D);have B2:=UD (Ac w2 w.heap.size Ef 42) (B1.o.kept D);unfold Jv;have e0:=H2.o.keeps aD;clear D)
  |(go_at_call 201;refine(ad.o _ (by exact cg H2.o)).mono ?_;rintro e w3 ⟨rfl,h3⟩;have H3:=UD (Chg w w3 []) (ct H2.o h3);have B3:=UD (Ac w3 w.heap.size Ef 42) (B2.o.kept h3);have d3:=H3.o.keeps c1;clear h3)
  |(go_at_call 149;refine(aP.o _ (by exact cg H3.o)).mono ?_;rintro e w4 ⟨rfl,h4⟩;have H4:=UD (Chg w w4 []) (ct H3.o h4);have B4:=UD (Ac w4 w.heap.size Ef 42) (B3.o.kept h4);have d4:=H4.o.keeps c1;clear h4)
  |(go_at_call 203;refine(aO.o _ (by exact cg H4.o)).mono ?_;rintro e E ⟨rfl,B,J⟩;have bf:=UD (Chg w4 E [g]) J;have H5:=UD (Chg w E [g]) ((H4.o.none _).trans J);have L5:=hZ B;have B5:=UD (Ac E w.heap.size Ef 42) (B4.o.kept J (by simp;omega));have aa:=hZ (aQ.o.kept H5.o (by simp;exact fun e=>aI e.symm));have d5:=aa.o.cell 0;have f5:∀j,E.frozen? ⟨n,j,none⟩=false:=fun j=>aa.o.frozen j;have l5:=aa.o.lt;have T:=hZ (aw.o.kept H5.o (by simp;exact aY));have aU:=T.o.cell 1;have aV:=T.o.cell 2;have bh:∀j,E.frozen? ⟨W,j,none⟩=false:=fun j=>T.o.frozen j;have bq:=T.o.lt;simp only[Qa,Qb]at d5 aU aV;clear B J)
  |(go_at_call 196;have aS:=hZ (aa.o.set 0 (.slice (some ⟨g,0,none⟩) (vs.length-1) r));have av:=UD (Chg E (E.setCell ⟨n,0,none⟩ (.slice (some ⟨g,0,none⟩) (vs.length-1) r)) [n]) ((Chg.refl E [n]).setCell _ _ Zh);have L6:=hZ (L5.o.kept av.o (fun y k=>by simp[Vl.ownBlock]at k;subst k;simpa using aI));have H6:=UD (Chg w (E.setCell ⟨n,0,none⟩ (.slice (some ⟨g,0,none⟩) (vs.length-1) r)) [n,g]) ((H5.o.mono (fun _ _ d=>by simp at d;simp[d])).trans (av.o.mono (fun _ _ d=>by simp at d;simp[d])));obtain⟨H,ab,P,m2,au,m4,m5,m6⟩:=aR.o _ H6.o aS.o L6.o;have aT:=hZ au;have m3:DJ w (W::bs) (W::(H++ab)):=(DJ.refl HH.o.nodup).count au;have ai:W∉H++ab:=(List.nodup_cons.1 m3.nodup).1;have M1:=hZ P;have M2:=hZ m2;have M3:=hZ m3;have M5:=hZ m5;refine(az.o _ H (by exact((H6.o.mono (cs:=[W,n,g]) (fun _ _ d=>Qg _ d)).setCell _ _ Zh).setCell _ _ Zh) (by exact P.chg (cs:=[W]) (((Chg.refl _ [W]).setCell _ _ Zh).setCell _ _ Zh) (fun y k d=>by simp at k;subst k;exact ai (Qe _ d)))).mono ?_;clear P m2 m3 au m4 m5 m6;rintro e w6 h5;obtain⟨sv,ys,G,rfl,B,J⟩:=h5.at;have K1:=hZ B;have K2:=hZ J;obtain⟨sa,sc,rfl,_⟩:=B.row.form;clear h5 B J)
  |(refine Ae rfl _ _ _ rfl w.heap.size (BJ (AC 1 (p++[s]) (Ai u)) (.slice sa (AC 1 (p++[s]) (Ai u)).steps.length sc)) ZN ZN 42 Ef (by exact(((B5.o.set_other _ _ (by simp only;omega)).set_other _ _ (by simp only;omega)).set_other _ _ (by simp only;omega)).kept K2.o) A0 rfl (Dx _ _ _ _) ?_;intro w7 bd aB aH;have aN:=hZ aB;have S:=hZ aH;clear bd aB aH))
 have bc:=H5.o.size;have ag:Chg (E.setCell ⟨n,0,none⟩ (.slice (some ⟨g,0,none⟩) (vs.length-1) r)) w6 [W]:=Chg.trans (b:=_) (((Chg.refl _ [W]).setCell _ _ Zh).setCell _ _ Zh) (K2.o.none _);have a2:Chg w w6 [W,n,g]:=(H6.o.mono (fun _ _ d=>Qg _ d)).trans (ag.mono (fun _ _ d=>by simp at d;simp[d]));have aW:Chg w w7 [W,n,g]:=a2.step S.o (fun i hi O=>by simp at hi;omega);have hk:=K1.o.kept (w0:=w) S.o (fun b N=>by simp at N;subst N;simpa using B5.o.lt) (by simpa using bc);have bl:=AP.lt _ _ _ M1.o;have bk:=AP.lt _ _ _ M2.o
 have ap:∀y,y∈W::(H++ab)->y<w.heap.size:=fun y k=>by
  have I:=List.count_pos_iff.2 k;have D:=aT.o y
  rcases Qh.1 (List.count_pos_iff.1 (Q6 I D))with h|h
  .omega
  .exact AP.lt _ _ _ HH.o.wat.at_ _ h
 refine bodyPost_ret (Hh rfl _ _ w.heap.size 42 (BJ (AC 1 (p++[s]) (Ai u)) (.slice sa (AC 1 (p++[s]) (Ai u)).steps.length sc)) _ rfl aN.o underlying42 rfl A0) rfl ?_;rw[JH]at M ax|-;refine⟨.iface Q R,H,.iface tv xv,ab,_,ys,G,rfl,hk, ?_,⟨?_, ?_,ax.o⟩,M3.o,aW.mono (fun _ _ d=> ?_),fun b N hG=> ?_⟩
 .exact(M1.o.chg ag (fun y k d=>by simp at k;subst k;exact ai (Qe _ d))).chg S.o (fun y k d=>by simp at k;subst k;exact Nat.lt_irrefl _ (ap _ (Qg _ (Qe _ d))))
 .have e1:=M.o.1
  have e2:=M.o.2;have N:=(((T.o.set_other ⟨n,0,none⟩ (.slice (some ⟨g,0,none⟩) (vs.length-1) r) (by simp only;exact fun e=>aX e.symm)).set 1 (.int .i64 (N-su.nodes))).set 2 (.int .i64 (BB-su.bytes)));rw[e1,e2];exact(N.kept K2.o).kept S.o (by simp;omega)
 .exact(M2.o.chg ag (fun y k d=>by simp at k;subst k;exact ai (Qd _ d))).chg S.o (fun y k d=>by simp at k;subst k;exact Nat.lt_irrefl _ (ap _ (Qg _ (Qd _ d))))
 .simp at d
  rcases d with rfl|rfl|rfl
  .simp
  .exact Qg _ (M5.o _ Zh)
  .exact Qg _ (M5.o _ Zh)
 .have I:=(hk.new b hG).1
  have D:=ap b N;omega
theorem TD(W:Nat)(t u:Tr)(v uv:Vl)(bs:List Nat)(F:Nat->Prop)(a:Option Addr)(c:Nat)(B:List BY)(s:BY)(w:Wl)(ks:List BY)(l:List Tr)(h:UI W t v uv bs F (.slice a (B.length+1) c) (B++[s]) w)(hl:Ah t B=some (.obj ks l))(aK:Dy (.obj ks l) s=some u):
  Cl prog 167 #[.pointer (some ⟨W,0,none⟩),.slice a (B.length+1) c] w (EC W uv (W::bs) t (B++[s]) w):=by
 obtain⟨hh,hu⟩:=Uk aK;have aL:B++[s]≠[]:=Zh
 have ai:Ah t (B++[s])=some u:=by rw[BW,hl];exact aK
 obtain⟨b,o,rfl,aB,a5,b8,cb,cc,b0⟩:=h.tat.last;have lb:=h.tat.lt b aB;obtain⟨tv,xv,rfl⟩:=h.wat.at_.iface;obtain⟨vp,bp,rest,S⟩:=EU h.wat.at_ _ B _ rfl hl;obtain⟨n,sv,sk,vs,fs,rfl,D,aa⟩:=S.at_.obj;have aG:=h.wat.fine.lead hl;have ag:=aG.good;have b7:l.length<=65536:=by have:=aG.many;simp only[Ab]at this;omega
 have bd:=Dk (Cp.1 hh);have aC:=S0 (s:=s) D ag.1 cb cc hh
 have hcut:CT s (.obj ks l)= .obj (ks.eraseIdx (A5 ks s)) (l.eraseIdx (A5 ks s)):=by
  unfold CT;simp only[D6,Qr hh]
 have aO:D6 (.obj ks l) s=some (A5 ks s):=by simp only[D6];rw[Qr hh]
 obtain⟨pi,bc⟩:=Ue (A5 ks s)
 rw[<-bc]at aC bd hu hcut aO;have bM:=hZ aC;have ca:pi<l.length:=by have:=ag.2.1;omega
 obtain⟨vu,bu,al,aP,bY⟩:=D.at_.get hu;obtain⟨_,_,_,_,cj,co,r2,_,M,q6,q7,a9⟩:=Fx S.at_ (s:=s) aO hu;have ba:=S.snoc a9;obtain⟨tu,xu,rfl⟩:=aP.iface;have cd:=D.at_.length
 obtain⟨q,cv,rfl,cZ⟩:∃g c',sv= .slice (some ⟨g,0,none⟩) vs.length c'/\vs.length<=c':=by
  rcases D.lst.one with⟨_,e⟩|h
  .rw[e]at al;simp at al
  .exact h
 obtain⟨gk,ck,rfl,cY⟩:∃g c',sk= .slice (some ⟨g,0,none⟩) ks.length c'/\ks.length<=c':=by
  rcases D.keys.one with⟨_,e⟩|h
  .have:=Ao ks;rw[e]at this;simp at this;omega
  .rw[Ao]at h;exact h
 have ce:cj= .iface tu xu:=by
  unfold IR at M
  injection M with _ M
  injection M with M
  injection M with M
  injection M with M
  subst M;have L:=D.blk.cell 0;simp only[Qa]at L;rw[q6]at L
  injection L with L
  injection L with L
  injection L with L
  injection L with L
  subst L;have e7:=D.lst.cell rfl pi _ al;rw[q7]at e7;injection e7
 subst ce;have af:=h.wat.fine.lead ai;have be:=Ar h.wat.fine.fits;have bf:=Ar af.fits;obtain⟨X,q2⟩:=R9 h.wat.fine aL ai (by rw[List.dropLast_concat];exact hl);rw[BE]at q2;have q2:(Ag (A8 t (B++[s]))).bytes+(Ag u).bytes+s.size=(Ag t).bytes:=q2;have a8:Bt (A8 t (B++[s])):=h.wat.fine.cut aL ai;have b6:(B++[s]).length=B.length+1:=Zh
 have aZ:=hZ (Dl h.laid h.wat h.tat ba);have ar:=hZ (Ud h.laid h.wat h.tat.init S);unfold IR at ar;have aX:=UD (∀N,Chg w N []->JB (.iface tu xu) (Ag u) N) fun N hx=>MD _ u _ bu N (Q8 _) af.good af.fits (aP.chg hx Zh)
 have ap:∀y,y∈bp->y∈bs:=fun y z=>S.perm.mem_iff.2 (Qe _ z)
 have aI:q∈bs:=ap q (by rw[aa];simp[Vl.ownBlock]);have aH:gk∈bs:=ap gk (by rw[aa];simp[Vl.ownBlock]);have aF:n∈bs:=ap n (by rw[aa];simp);have ao:W∉bs:=(List.nodup_cons.1 h.nodup).1
 have a6:∀y,List.count y [n,gk,q]<=1:=fun y=>by
  have R:=List.nodup_iff_count.1 h.nodup y;have Q:=S.perm.count_eq y;rw[aa]at Q;simp only[List.count_cons,List.count_append,Vl.ownBlock,Option.toList_some,List.count_nil]at R Q|-;omega
 have aj:[n,gk,q].Nodup:=List.nodup_iff_count.2 a6
 have aM:gk≠n/\q≠n/\gk≠q:=by
  simp at aj;exact⟨fun e=>aj.1.1 e.symm,fun e=>aj.1.2 e.symm,aj.2⟩
 have aJ:∀y,y∈[W,n,gk,q]->y∈W::bs:=fun y z=>by simp at z;rcases z with rfl|rfl|rfl|rfl;simp;simp[aF];simp[aH];simp[aI]
 have aY:=UD (∀N P,Chg w N [W,n,gk,q]->AP N u (.iface tu xu) P->Cl prog 196 #[.int .i64 1,.slice (some ⟨b,o,none⟩) (B.length+1) c,.iface tu xu] N (Et (AC 1 (B++[s]) (Ai u)) N)) fun N P hx b9=>by
  have ht:=h.tat.kept hx (fun y z=>h.apart y (aJ y z));exact DE 1 F _ (B++[s]) u _ P N (h.laid.kept hx (fun y z=>h.big y (aJ y z))) ht.row ht.lt ht.ok ht.small af b9
 have b3:∀y∈vs,∃t x,y= .iface t x:=Ih D.at_
 have b5:pi<vs.length:=Zj
 have b4:pi<ks.length:=by have:=ag.2.1;omega
 have c1:vs.length<=65536:=Zj
 have c0:ks.length<=65536:=by have:=ag.2.1;omega
 have bQ:=UD (∀H U ad,Chg w H [n,gk,q]->Ac H n [.slice (some ⟨q,0,none⟩) (vs.length-1) ad,.slice (some ⟨gk,0,none⟩) (ks.length-1) U] 177->AK H (.slice (some ⟨q,0,none⟩) (vs.length-1) ad) 95 (vs.eraseIdx pi)->AK H (.slice (some ⟨gk,0,none⟩) (ks.length-1) U) 9 (Ad (ks.eraseIdx pi))->OP w H W (Bz (CT s) t B) u (.iface tv xv) (.iface tu xu) bs [n,gk,q]) fun H U ad J T k3 k4=>
  Wp h.wat S D aa h.nodup hu al hcut J T k3 k4
 have cX:b≠W:=fun e=>h.apart W Zh (by rw[<-e];exact aB)
 have cU:W≠n:=fun e=>ao (by rw[e];exact aF)
 have cV:W≠gk:=fun e=>ao (by rw[e];exact aH)
 have cW:W≠q:=fun e=>ao (by rw[e];exact aI)
 have lW:=h.wat.blk.lt;have c3:=D.blk.lt;have c5:=D.lst.lt (g:=q) rfl;have c4:=D.keys.lt (g:=gk) rfl;have a0:OS prog (.iface 175 (.pointer (some ⟨n,0,none⟩))) 95 175 #[.pointer (some ⟨n,0,none⟩),.bool true]:=fun _=>Yb
 have HH:=hZ h;have aV:=hZ h.wat.blk;have bN:=hZ D.blk;have bO:=hZ D.keys;have bP:=hZ D.lst;have aW:=hZ a8;have Z:=UD (((Ag (A8 t (B++[s]))).nodes:Int)=(Ag t).nodes-(Ag u).nodes/\((Ag (A8 t (B++[s]))).bytes:Int)=(Ag t).bytes-((Ag u).bytes+s.size)) ⟨Zj,Zj⟩
 have bL:=UD (∀K,w.heap.size<=K.heap.size->Nh K n (.slice (some ⟨q,0,none⟩) vs.length cv) (.slice (some ⟨gk,0,none⟩) ks.length ck)) fun K hz=>⟨Zj,fun g hg=>by
  simp[Vl.ownBlock]at hg;subst hg
  exact⟨Zj,aM.1,by simp[Vl.ownBlock];exact fun e=>aM.2.2 e.symm⟩,fun g hg=>by
  simp[Vl.ownBlock]at hg;subst hg
  exact⟨Zj,aM.2.1⟩⟩
 rw[JF ai];obtain⟨m,C⟩:=Ue B.length
 rw[<-C]at aZ ar aY a5 b8 b0|-;obtain⟨N,hN⟩:=Ue ((Ag t).nodes)
 obtain⟨BB,aA⟩:=Ue ((Ag t).bytes)
 obtain⟨su,aQ⟩:=Ue (Ag u)
 rw[<-hN,<-aA]at aV be;rw[<-hN,<-aA,<-aQ]at Z;rw[<-aQ]at aX bf;obtain⟨t1,t2,t3⟩:=be;obtain⟨s1,s2,s3⟩:=bf;have t4:su.nodes<=N:=by have:=Z.o.1;omega
 have t5:su.bytes+s.size<=BB:=by have:=Z.o.2;omega
 clear h aL ai S D bc hu al aP af X q2 b6 C aa bY cd ca bd aB hl aK a9 ba ap aJ M q6 q7 a8 hcut hN aA aQ b7 ao aI aH aF hh aG ag aC aO a6 aj;go_enter func167,ntmps167
 go_wp2_with(first
  |(go_at_call 170;refine(aZ.o _ (by exact cg cR)).mono ?_;rintro e w1 ⟨rfl,R⟩;have H1:=UD (Chg w w1 []) (ct cR R);have B1:=UD (Ac w1 w.heap.size Ef 42) ((Ac.new w Ef 42).kept R);obtain⟨f,args,m1,J⟩:=aX.o w1 H1.o;have HM:=hZ m1;have HC:=hZ J;clear R m1 J)
  |(refine Am rfl _ _ _ rfl _ rfl f args HM.o _ HC.o ?_;rintro e w2 ⟨rfl,Q⟩;refine⟨_,rfl, ?_⟩;have H2:=UD (Chg w w2 []) (H1.o.trans Q);have B2:=UD (Ac w2 w.heap.size Ef 42) (B1.o.kept Q);unfold Jv;have e0:=H2.o.keeps a5;clear Q)
  |(go_at_call 201;refine(ar.o _ (by exact cg H2.o)).mono ?_;rintro e w3 ⟨rfl,h3⟩;have H3:=UD (Chg w w3 []) (ct H2.o h3);have B3:=UD (Ac w3 w.heap.size Ef 42) (B2.o.kept h3);clear h3)
  |(go_at_call 197;refine(bM.o _ (by exact cg H3.o)).mono ?_;rintro e am ⟨rfl,h4⟩;have bJ:=UD (Chg w am []) (ct H3.o h4);have bI:=UD (Ac am w.heap.size Ef 42) (B3.o.kept h4);clear h4))
 obtain⟨K,aR⟩:=Ue am.drew
 have bR:=hZ aR;have aU:Hid (Chg am K []):=by rw[aR];exact hZ ((Chg.refl am []).drew)
 have Y:=UD (Chg w K []) (bJ.o.trans aU.o);have B4:=UD (Ac K w.heap.size Ef 42) (bI.o.kept aU.o);have ch:=Y.o.size;have ah:=bL.o K ch;have p1:=bN.o.kept Y.o;have p2:=bO.o.kept Y.o;have p3:=bP.o.kept Y.o
 have a4:∀f,OQ K n pi (ks.length-1) (vs.length-1) (.slice (some ⟨q,0,none⟩) vs.length cv) (.slice (some ⟨gk,0,none⟩) ks.length ck) ks (ks.eraseIdx pi) vs (vs.eraseIdx pi) (fun _=>false) f K:=fun f=>
  ⟨Chg.refl _ _,(fun _ e=>by cases e),(fun e=>by cases e),(fun e=>by cases e),(fun e=>by cases e),(fun e=>by cases e),fun _=>p1,(fun e=>by cases e),(fun e=>by cases e),fun _=>p2,fun _=>p3,(fun e=>by cases e),(fun e=>by cases e)⟩
 clear aR;refine wp_region_any Yb ?_;change wpAny _ _ _ _ _ _ _ (World.drew _);rw[<-bR.o];refine Gy _ (OQ K n pi (ks.length-1) (vs.length-1) (.slice (some ⟨q,0,none⟩) vs.length cv) (.slice (some ⟨gk,0,none⟩) ks.length ck) ks (ks.eraseIdx pi) vs (vs.eraseIdx pi)) Yb ?_ ?_ _ ?_
 .intro ii op a wa dd k I O r d K p
  match ii,k with
  |0,k=>
   obtain rfl:=Q5 k;have ax:a.tmps.getD 14 undef= .pointer (some ⟨n,0,none⟩):=I.at 14 Yb;go_simp
   exact p _ _ Zh (d.plain ZM ZM ZM ZM (by simp[Ed]) cR)
  |1,k=>
   obtain rfl:=Q5 k;have ax:a.tmps.getD 14 undef= .pointer (some ⟨n,0,none⟩):=I.at 14 Yb;go_simp
   exact p _ _ Zh (d.plain ZM ZM ZM ZM (by simp[Ed]) cR)
  |2,k=>
   obtain rfl:=Q5 k;have ax:a.tmps.getD 14 undef= .pointer (some ⟨n,0,none⟩):=I.at 14 Yb;go_simp
   exact p _ _ Zh (d.plain ZM ZM ZM ZM (by simp[Ed]) cR)
  |3,k=>
   obtain rfl:=Q5 k;have cx:a.tmps.getD 56 undef= .pointer (some ⟨n,0,none⟩):=d.vals 2 (r ⟨2,.data⟩ Zh rfl);go_simp
   exact p _ _ Zh (d.plain ZM ZM ZM ZM (by simp[Ed]) cR)
  |4,k=>
   obtain rfl:=Q5 k;have cy:a.tmps.getD 57 undef= .pointer (some ⟨n,0,none⟩):=d.vals 3 (r ⟨3,.data⟩ Zh rfl);go_simp
   exact p _ _ Zh (d.plain ZM ZM ZM ZM (by simp[Ed]) cR)
  |5,k=>
   obtain rfl:=Q5 k;have cz:a.tmps.getD 58 undef= .pointer (some ⟨n,1,none⟩):=d.vals 4 (r ⟨4,.data⟩ Zh rfl)
   have aw:dd 21=false:=by
    cases e:dd 21 with
    |false=>rfl
    |true=>have az:=d.o21 e;have h:=d.o9 (d.o18 az).1;rw[O]at h;cases h
   have E:=d.blk0 aw;have V:=E.cell 1;simp only[Qa,Qb]at V;go_simp
   exact p _ _ Zh (d.plain ZM ZM ZM ZM (by simp[Ed]) cR)
  |6,k=>
   obtain rfl:=Q5 k;have ay:a.tmps.getD 15 undef= .int .i64 pi:=I.at 15 Yb;go_simp
   exact p _ _ Zh (d.plain ZM ZM ZM ZM (by simp[Ed]) cR)
  |7,k=>
   obtain rfl:=Q5 k;have ay:a.tmps.getD 15 undef= .int .i64 pi:=I.at 15 Yb;go_simp
   exact p _ _ Zh (d.plain ZM ZM ZM ZM (by simp[Ed]) cR)
  |8,k=>
   obtain rfl:=Q5 k;have cC:a.tmps.getD 61 undef= .int .i64 pi:=d.vals 7 (r ⟨7,.data⟩ Zh rfl);have aS:IntKind.i64.wrap ((pi:Int)+1)=(pi:Int)+1:=IntWalk.i64_in _ Zj;go_simp
   exact p _ _ Zh (d.plain ZM ZM ZM ZM (by simp[Ed,aS]) cR)
  |9,k=>
   obtain rfl:=Q5 k;have d5:=r ⟨5,.data⟩ Zh rfl;have cA:a.tmps.getD 59 undef= .slice (some ⟨gk,0,none⟩) ks.length ck:=d.vals 5 d5;have cB:a.tmps.getD 60 undef= .int .i64 pi:=d.vals 6 (r ⟨6,.data⟩ Zh rfl);have cD:a.tmps.getD 62 undef= .int .i64 (pi+1):=d.vals 8 (r ⟨8,.data⟩ Zh rfl);have bW:=d.keys0 O;go_simp
   go_at_call 202;refine(QD gk ck pi ks wa bW b4).mono ?_;rintro e w1 ⟨rfl,J,T⟩;exact p _ _ Zh (d.call9 ah O d5 J T rfl)
  |10,k=>
   obtain rfl:=Q5 k;have ax:a.tmps.getD 14 undef= .pointer (some ⟨n,0,none⟩):=I.at 14 Yb;go_simp
   exact p _ _ Zh (d.plain ZM ZM ZM ZM (by simp[Ed]) cR)
  |11,k=>
   obtain rfl:=Q5 k;have cF:a.tmps.getD 64 undef= .pointer (some ⟨n,0,none⟩):=d.vals 10 (r ⟨10,.data⟩ Zh rfl);go_simp
   exact p _ _ Zh (d.plain ZM ZM ZM ZM (by simp[Ed]) cR)
  |12,k=>
   obtain rfl:=Q5 k;have cG:a.tmps.getD 65 undef= .pointer (some ⟨n,0,none⟩):=d.vals 11 (r ⟨11,.data⟩ Zh rfl);go_simp
   exact p _ _ Zh (d.plain ZM ZM ZM ZM (by simp[Ed]) cR)
  |13,k=>
   obtain rfl:=Q5 k;have cH:a.tmps.getD 66 undef= .pointer (some ⟨n,0,none⟩):=d.vals 12 (r ⟨12,.data⟩ Zh rfl);go_simp
   exact p _ _ Zh (d.plain ZM ZM ZM ZM (by simp[Ed]) cR)
  |14,k=>
   obtain rfl:=Q5 k;have cI:a.tmps.getD 67 undef= .pointer (some ⟨n,0,none⟩):=d.vals 13 (r ⟨13,.data⟩ Zh rfl)
   have aw:dd 21=false:=by
    cases e:dd 21 with
    |false=>rfl
    |true=>have az:=d.o21 e;have h:=(d.o18 az).2;rw[O]at h;cases h
   have E:=d.blk0 aw;have V:=E.cell 0;simp only[Qa,Qb]at V;go_simp
   exact p _ _ Zh (d.plain ZM ZM ZM ZM (by simp[Ed]) cR)
  |15,k=>
   obtain rfl:=Q5 k;have ay:a.tmps.getD 15 undef= .int .i64 pi:=I.at 15 Yb;go_simp
   exact p _ _ Zh (d.plain ZM ZM ZM ZM (by simp[Ed]) cR)
  |16,k=>
   obtain rfl:=Q5 k;have ay:a.tmps.getD 15 undef= .int .i64 pi:=I.at 15 Yb;go_simp
   exact p _ _ Zh (d.plain ZM ZM ZM ZM (by simp[Ed]) cR)
  |17,k=>
   obtain rfl:=Q5 k;have cL:a.tmps.getD 70 undef= .int .i64 pi:=d.vals 16 (r ⟨16,.data⟩ Zh rfl);have aS:IntKind.i64.wrap ((pi:Int)+1)=(pi:Int)+1:=IntWalk.i64_in _ Zj;go_simp
   exact p _ _ Zh (d.plain ZM ZM ZM ZM (by simp[Ed,aS]) cR)
  |18,k=>
   obtain rfl:=Q5 k;have a1:=r ⟨14,.data⟩ Zh rfl;have d9:=r ⟨9,.chain⟩ Zh rfl;have cJ:a.tmps.getD 68 undef= .slice (some ⟨q,0,none⟩) vs.length cv:=d.vals 14 a1;have cK:a.tmps.getD 69 undef= .int .i64 pi:=d.vals 15 (r ⟨15,.data⟩ Zh rfl);have cM:a.tmps.getD 71 undef= .int .i64 (pi+1):=d.vals 17 (r ⟨17,.data⟩ Zh rfl);have bX:=d.items0 O;go_simp
   go_at_call 203;refine(NV q cv pi vs wa b3 bX b5).mono ?_;rintro e w1 ⟨rfl,J,T⟩;exact p _ _ Zh (d.call18 ah O d9 a1 J T rfl)
  |19,k=>
   obtain rfl:=Q5 k;have cu:a.tmps.getD 54 undef= .pointer (some ⟨n,0,none⟩):=d.vals 0 (r ⟨0,.data⟩ Zh rfl);go_simp
   exact p _ _ Zh (d.plain ZM ZM ZM ZM (by simp[Ed]) cR)
  |20,k=>
   obtain rfl:=Q5 k;have cO:a.tmps.getD 73 undef= .pointer (some ⟨n,0,none⟩):=d.vals 19 (r ⟨19,.data⟩ Zh rfl);go_simp
   exact p _ _ Zh (d.plain ZM ZM ZM ZM (by simp[Ed]) cR)
  |21,k=>
   obtain rfl:=Q5 k;have a2:=r ⟨18,.chain⟩ Zh rfl;have cP:a.tmps.getD 74 undef= .pointer (some ⟨n,1,none⟩):=d.vals 20 (r ⟨20,.data⟩ Zh rfl);obtain⟨g,au,X,q2,q3⟩:=d.r9 (d.o18 a2).1;have cE:a.tmps.getD 63 undef= .slice (some ⟨g,0,none⟩) (ks.length-1) au:=X;have E:=d.blk0 O;have V:=E.cell 1;have b2:=E.frozen 1;simp only[Qa,Qb]at V;have ak:=d.store21 ah O a2;rw[X]at ak;go_simp
   exact p _ _ Zh ak
  |22,k=>
   obtain rfl:=Q5 k;have cw:a.tmps.getD 55 undef= .pointer (some ⟨n,0,none⟩):=d.vals 1 (r ⟨1,.data⟩ Zh rfl);go_simp
   exact p _ _ Zh (d.plain ZM ZM ZM ZM (by simp[Ed]) cR)
  |23,k=>
   obtain rfl:=Q5 k;have cQ:a.tmps.getD 75 undef= .pointer (some ⟨n,0,none⟩):=d.vals 22 (r ⟨22,.data⟩ Zh rfl);go_simp
   exact p _ _ Zh (d.plain ZM ZM ZM ZM (by simp[Ed]) cR)
  |24,k=>
   obtain rfl:=Q5 k;have cS:a.tmps.getD 76 undef= .pointer (some ⟨n,0,none⟩):=d.vals 23 (r ⟨23,.data⟩ Zh rfl);go_simp
   exact p _ _ Zh (d.plain ZM ZM ZM ZM (by simp[Ed]) cR)
  |25,k=>
   obtain rfl:=Q5 k;have av:=r ⟨21,.chain⟩ Zh rfl;have cT:a.tmps.getD 77 undef= .pointer (some ⟨n,0,none⟩):=d.vals 24 (r ⟨24,.data⟩ Zh rfl);obtain⟨g,au,X,q2,q3⟩:=d.r18 (d.o21 av);have cN:a.tmps.getD 72 undef= .slice (some ⟨g,0,none⟩) (vs.length-1) au:=X;have E:=d.blk1 av O;have V:=E.cell 0;have b2:=E.frozen 0;simp only[Qa,Qb]at V;have ak:=d.store25 ah O av;rw[X]at ak;go_simp
   exact p _ _ Zh ak
  |_+26,k=>exact absurd k Zh
 .intro a H dd I hd d
  obtain⟨cq,U,f1,f2,f3⟩:=d.r9 (hd 9 ZM);obtain⟨cr,ad,g1,g2,g3⟩:=d.r18 (hd 18 ZM);have E:=d.blk2 (hd 25 ZM);rw[f1,g1]at E;simp[Vl.ownBlock]at f3 g3;subst f3 g3;have b1:U=U:=rfl;have aq:Chg K H [n,gk,q]:=d.chg;obtain⟨f4,f5⟩:True/\True:=⟨trivial,trivial⟩;have cl:=hZ E;have cm:=hZ f2;have cn:=hZ g2;have HR:=UD (Chg w H [n,gk,q]) ((Y.o.none _).trans aq);obtain⟨P,an,m1,m2,aT,m4,m5,m6⟩:=bQ.o H U ad HR.o E g2 f2;have bS:=hZ aT;have m3:DJ w (W::bs) (W::(P++an)):=(DJ.refl HH.o.nodup).count aT;have aE:W∉P++an:=(List.nodup_cons.1 m3.nodup).1;have M1:=hZ m1;have M2:=hZ m2;have M3:=hZ m3;have M5:=hZ m5;have B5:=UD (Ac H w.heap.size Ef 42) (B4.o.kept aq (by simp;omega));have W5:=hZ (aV.o.kept HR.o (by simp;omega));have bT:=W5.o.cell 1;have bU:=W5.o.cell 2;have cp:∀j,H.frozen? ⟨W,j,none⟩=false:=fun j=>W5.o.frozen j
  have c2:=W5.o.lt;simp only[Qa,Qb]at bT bU;have e5:=((Y.o.none [n,gk,q]).trans aq);clear d f1 f2 g1 g2 E aq m1 m2 m3 aT m4 m5 m6 hd a4 ah p1 p2 p3 f4 f5 b1 e5;have ae:=I.form' [54,55,56,57,58,59,60,61,62,63,64,65,66,67,68,69,70,71,72,73,74,75,76,77] Yb;have a7:=I.defers;obtain⟨A,df⟩:=a;clear I
  dsimp only at ae a7
  simp only[List.foldl_cons,List.foldl_nil]at ae;obtain⟨u54,bg⟩:=Ue (A.getD 54 undef)
  obtain⟨u55,bh⟩:=Ue (A.getD 55 undef)
  obtain⟨u56,bi⟩:=Ue (A.getD 56 undef)
  obtain⟨u57,bj⟩:=Ue (A.getD 57 undef)
  obtain⟨u58,bk⟩:=Ue (A.getD 58 undef)
  obtain⟨u59,bl⟩:=Ue (A.getD 59 undef)
  obtain⟨u60,bm⟩:=Ue (A.getD 60 undef)
  obtain⟨u61,bn⟩:=Ue (A.getD 61 undef)
  obtain⟨u62,bo⟩:=Ue (A.getD 62 undef)
  obtain⟨u63,bq⟩:=Ue (A.getD 63 undef)
  obtain⟨u64,br⟩:=Ue (A.getD 64 undef)
  obtain⟨u65,bt⟩:=Ue (A.getD 65 undef)
  obtain⟨u66,bv⟩:=Ue (A.getD 66 undef)
  obtain⟨u67,bw⟩:=Ue (A.getD 67 undef)
  obtain⟨u68,bx⟩:=Ue (A.getD 68 undef)
  obtain⟨u69,bz⟩:=Ue (A.getD 69 undef)
  obtain⟨u70,bA⟩:=Ue (A.getD 70 undef)
  obtain⟨u71,bB⟩:=Ue (A.getD 71 undef)
  obtain⟨u72,bC⟩:=Ue (A.getD 72 undef)
  obtain⟨u73,bD⟩:=Ue (A.getD 73 undef)
  obtain⟨u74,bE⟩:=Ue (A.getD 74 undef)
  obtain⟨u75,bF⟩:=Ue (A.getD 75 undef)
  obtain⟨u76,bG⟩:=Ue (A.getD 76 undef)
  obtain⟨u77,bH⟩:=Ue (A.getD 77 undef)
  rw[<-bg,<-bh,<-bi,<-bj,<-bk,<-bl,<-bm,<-bn,<-bo,<-bq,<-br,<-bt,<-bv,<-bw,<-bx,<-bz,<-bA,<-bB,<-bC,<-bD,<-bE,<-bF,<-bG,<-bH]at ae;clear bg bh bi bj bk bl bm bn bo bq br bt bv bw bx bz bA bB bC bD bE bF bG bH;simp only[List.setIfInBounds_toArray,List.set_cons_zero,List.set_cons_succ]at ae;subst ae;subst a7
  go_wp2_with(first
   |(go_at_call 196;refine(aY.o _ P (by exact((HR.o.mono (cs:=[W,n,gk,q]) (fun _ _ C=>Qg _ C)).setCell _ _ Zh).setCell _ _ Zh) (by exact M1.o.chg (cs:=[W]) (((Chg.refl _ [W]).setCell _ _ Zh).setCell _ _ Zh) (fun y z C=>by simp at z;subst z;exact aE (Qe _ C)))).mono ?_;rintro e w6 h5;obtain⟨c6,ys,G,rfl,J,T⟩:=h5.at;have K1:=hZ J;have K2:=hZ T;obtain⟨sa,sc,rfl,_⟩:=J.row.form;clear h5 J T)
   |(refine Ae rfl _ _ _ rfl w.heap.size (BJ (AC 1 (B++[s]) (Ai u)) (.slice sa (AC 1 (B++[s]) (Ai u)).steps.length sc)) ZN ZN 42 Ef (by exact((B5.o.set_other _ _ (by simp only;omega)).set_other _ _ (by simp only;omega)).kept K2.o) A0 rfl (Dx _ _ _ _) ?_;intro w7 ci a3 bb;have bK:=hZ a3;have ab:=hZ bb;clear ci a3 bb))
  have cf:=HR.o.size;have aD:Chg H w6 [W]:=Chg.trans (b:=_) (((Chg.refl _ [W]).setCell _ _ Zh).setCell _ _ Zh) (K2.o.none _);have bZ:Chg w w6 [W,n,gk,q]:=(HR.o.mono (fun _ _ C=>Qg _ C)).trans (aD.mono (fun _ _ C=>by simp at C;simp[C]));have bV:Chg w w7 [W,n,gk,q]:=bZ.step ab.o (fun i hi hl=>by simp at hi;omega);have hk:=K1.o.kept (w0:=w) ab.o (fun b hb=>by simp at hb;subst hb;simpa using B5.o.lt) (by simpa using cf)
  have aN:∀y,y∈W::(P++an)->y<w.heap.size:=fun y z=>by
   have R:=List.count_pos_iff.2 z;have Q:=bS.o y
   rcases Qh.1 (List.count_pos_iff.1 (Q6 R Q))with h|h
   .omega
   .exact AP.lt _ _ _ HH.o.wat.at_ _ h
  refine bodyPost_ret (Hh rfl _ _ w.heap.size 42 (BJ (AC 1 (B++[s]) (Ai u)) (.slice sa (AC 1 (B++[s]) (Ai u)).steps.length sc)) _ rfl bK.o underlying42 rfl A0) rfl ?_;rw[JH]at Z aW|-;refine⟨.iface tu xu,P,.iface tv xv,an,_,ys,G,rfl,hk, ?_,⟨?_, ?_,aW.o⟩,M3.o,bV.mono (fun _ _ C=> ?_),fun b hb hG=> ?_⟩
  .exact(M1.o.chg aD (fun y z C=>by simp at z;subst z;exact aE (Qe _ C))).chg ab.o (fun y z C=>by simp at z;subst z;exact Nat.lt_irrefl _ (aN _ (Qg _ (Qe _ C))))
  .have e1:=Z.o.1
   have e2:=Z.o.2;have hb:=((W5.o.set 1 (.int .i64 (N-su.nodes))).set 2 (.int .i64 (BB-(su.bytes+s.size))));rw[e1,e2];exact(hb.kept K2.o).kept ab.o (by simp;omega)
  .exact(M2.o.chg aD (fun y z C=>by simp at z;subst z;exact aE (Qd _ C))).chg ab.o (fun y z C=>by simp at z;subst z;exact Nat.lt_irrefl _ (aN _ (Qg _ (Qd _ C))))
  .simp at C
   rcases C with rfl|rfl|rfl|rfl
   .simp
   .exact Qg _ (M5.o _ Zh)
   .exact Qg _ (M5.o _ Zh)
   .exact Qg _ (M5.o _ Zh)
  .have R:=(hk.new b hG).1
   have Q:=aN b hb;omega
 .exact a4 _
theorem Xw(W:Nat)(t:Tr)(v e:Vl)(bs:List Nat)(F:Nat->Prop)(a:Option Addr)(c:Nat)(ts:List BY)(w:Wl)(h:UI W t v e bs F (.slice a ts.length c) ts w)(g:ts≠[]):
  Cl prog 167 #[.pointer (some ⟨W,0,none⟩),.slice a ts.length c] w (EC W e (W::bs) t ts w):=by
 cases b:Ah t ts with
 |none=>
  rw[JE b];exact RJ W t v e bs F a _ c ts w _ h.laid h.wat h.tat b
 |some u=>
  obtain⟨d,s,rfl⟩:∃d s,ts=d++[s]:=⟨ts.dropLast,ts.getLast g,(List.dropLast_concat_getLast g).symm⟩
  have j:(d++[s]).length=d.length+1:=Zh
  rw[j]at h|-;rw[BW]at b
  cases f:Ah t d with
  |none=>rw[f]at b;simp at b
  |some p=>
   rw[f]at b;simp only[Option.bind_some]at b;by_cases i:AX p=true
   .rw[Md i]at b;cases b
   .cases p with
    |list l=>exact RI W t u v e bs F a c d s w l h f b
    |obj ks l=>exact TD W t u v e bs F a c d s w ks l h f b
    |_=>simp[AX]at i
end
section
open Go Go.Shelf Go.RowKit Go.Lib Tree Ptr
structure EW(w0 w':Wl)(os:List Bq)(sl:Vl)(xs:List Vl)(G:Nat->Prop):Prop where
 row:As w' sl 4 os.length xs
 inn:SE G sl
 ops:Eh w' G os xs
 new:∀b,G b->w0.heap.size<=b/\b<w'.heap.size
theorem EW.none(w0 w:Wl):EW w0 w [] (.slice Option.none 0 0) [] (fun _=>False):=
 ⟨⟨Option.none,0,rfl,Q8 _,rfl,fun i v a=>by simp at a⟩,(fun b o n c e=>by injection e with e;cases e),rfl,fun _ h=>False.elim h⟩
theorem EW.kept{w0 g w2 c:Wl}{os:List Bq}{f:Vl}{xs:List Vl}{G:Nat->Prop}{cs:List Nat}(h:EW g w2 os f xs G)(d:Chg w2 c cs)(i:∀b,b∈cs->¬G b)(j:w0.heap.size<=g.heap.size):EW w0 c os f xs G:=by
 have e:BZ G w2 c:=d.keepsF (fun b a=>(h.new b a).2) i;exact⟨h.row.keptF h.inn e,h.inn,h.ops.kept e (fun _ h=>h),fun b a=>by have:=h.new b a;have:=d.size;omega⟩
theorem EW.one{w0 d w2:Wl}{o:Bq}{sv:Vl}{ys:List Vl}{G:Nat->Prop}{g:Nat}(h:Dr w0 d o sv ys G)(l:w0.heap.size<=d.heap.size)(j:Chg d w2 [])(f:Ac w2 g (BJ o sv) 42)(m:d.heap.size<=g):
  EW w0 w2 [o] (.slice (some ⟨g,0,Option.none⟩) 1 1) (BJ o sv) (fun b=>b=g\/G b):=by
 have q:=j.size;have k:BZ G d w2:=j.keepsF (fun b a=>(h.new b a).2);refine⟨⟨_,_,rfl,Q8 _,by simp[BJ],fun i v p=>⟨g,0,rfl,by rw[Nat.zero_add,f.cell i];exact p⟩⟩,(fun b o n c e=>by injection e with e;injection e with e;injection e with e;exact .inl e.symm), ?_, ?_⟩
 .exact⟨sv,ys,[],Zh,h.row.keptF h.inn k,h.inn.mono (fun b a=> .inr a),h.steps.kept k (fun b a=> .inr a),rfl⟩
 .rintro b (rfl|a)
  .have:=f.lt
   exact⟨Q7 l m,f.lt⟩
  .have:=h.new b a;omega
def BC(W:Nat)(h:Vl)(c:List Nat)(r:PV)(w:Wl)(e:Ending)(w':Wl):Prop:=match r with
 | .no n=>AZ n c w e w'
 | .yes f g=>∃i a d xs G,e= .returned d/\EW w w' (g.reverse.map CW.toI) d xs G/\Hu w' W f i h a/\DJ w c (W::a)/\Chg w w' c/\∀b,b∈W::a->¬G b
theorem Sx.kept{W:Nat}{t x:Tr}{v d e:Vl}{bs b:List Nat}{F:Nat->Prop}{c:Vl}{ts:List BY}{w w':Wl}(h:Sx W t x v d e bs b F c ts w)(a:Chg w w' []):Sx W t x v d e bs b F c ts w':=
 ⟨h.laid.kept a,h.wat.kept a,h.xat.chg a Zh,h.xfine,h.tat.kept a,h.nodup,h.big,h.apart⟩
theorem UI.kept{W:Nat}{t:Tr}{v c:Vl}{bs:List Nat}{F:Nat->Prop}{b:Vl}{ts:List BY}{w w':Wl}(h:UI W t v c bs F b ts w)(a:Chg w w' []):UI W t v c bs F b ts w':=
 ⟨h.laid.kept a,h.wat.kept a,h.tat.kept a,h.nodup,h.big,h.apart⟩
theorem Hz{W:Nat}{b:Vl}{a:List Nat}{w:Wl}{n:Nat}:BC W b a (.no n) w=AZ n a w:=rfl
theorem GC{W:Nat}{o:Vl}{j:List Nat}{n:Tr}{r:CW}{w e w2 k:Wl}{p sv:Vl}{a:List Nat}{ys:List Vl}{G:Nat->Prop}{g:Nat}(l:Chg w e [])(c:Dr e w2 r.toI sv ys G)(i:Hu w2 W n p o a)(t:DJ e j (W::a))(m:Chg e w2 j)(s:∀b,b∈W::a->¬G b)(q:Ac k g (BJ r.toI sv) 42)(u:w2.heap.size<=g)(f:Chg w2 k []):BC W o j (.yes n [r]) w (.returned (.slice (some ⟨g,0,none⟩) 1 1)) k:=by
 have v:=l.size;have x:=m.size;refine⟨p,a,_,_,_,rfl,EW.one (w0:=w) ⟨c.row,c.inn,c.steps,fun b d=>by have:=c.new b d;omega⟩ Zj f q u,i.kept f,t.back v,(l.none _).trans (m.trans (f.none _)),fun b d=> ?_⟩;rintro(rfl|h)
 .rcases Qh.1 d with h|h
  .have:=i.blk.lt;omega
  .have:=AP.lt _ _ _ i.at_ _ h;omega
 .exact s b d h
end
section
open _root_.Go.Proofs.Tryz
open Go Go.Shelf Go.RowKit Go.Lib Tree Ptr
theorem YG(W:Nat)(t x:Tr)(v j n:Vl)(bs d:List Nat)(F:Nat->Prop)(a:Option Addr)(c:Nat)(ts:List BY)(k:Int)(p f:BY)(sv N:Vl)(w:Wl)(h:Sx W t x v j n bs d F (.slice a ts.length c) ts w):
  Cl prog 128 #[.pointer (some ⟨W,0,none⟩),.agg #[.int .i64 k,.string p,.string f,sv,.slice a ts.length c,N,n]] w (BC W j (W::(d++bs)) (Ga t ts x []) w):=by
 have g:=UD (∀b,Chg w b []->Cl prog 166 #[.pointer (some ⟨W,0,none⟩),.slice a ts.length c,n] b (Cq W j (W::(d++bs)) t x ts b)) fun b K=>Xo W t x v j n bs d F a c ts b (h.kept K)
 obtain⟨S,U,rfl⟩:=h.xat.iface;clear h;unfold Ga;by_cases i:EN t ts≠0
 .rw[Qr i,Hz]
  rw[show Cq W j (W::(d++bs)) t (x:=x) ts=fun b=>AZ (EN t ts) (W::(d++bs)) b from funext fun b=>LG rfl i]at g;go_enter func128,ntmps128
  go_wp2_with(first
   |(go_at_call 166;refine(g.o _ (by exact cg cR)).mono ?_;rintro e w2 ⟨l,h⟩;unfold By at l;subst l;have o:=UD (Chg w w2 (W::(d++bs))) (ct cR h);clear h))
  exact⟨rfl,rfl,o.o⟩
 .rw[Qs i]
  have i:EN t ts=0:=by simpa using i
  unfold Kj;by_cases m:(Ag (At t ts x)).within=true
  .rw[Qr m]
   rw[show Cq W j (W::(d++bs)) t (x:=x) ts=fun b=>ET W j (W::(d++bs)) (At t ts x) (Dd t ts).toI b from funext fun b=>LS i m]at g;obtain⟨r,u⟩:=Ue (Dd t ts)
   obtain⟨R,y⟩:=Ue (At t ts x)
   rw[<-u,<-y]at g|-;obtain⟨P,s⟩:=Ue r.toI
   rw[<-s]at g;clear u y m i;go_enter func128,ntmps128
   go_wp2_with(first
    |(go_at_call 166;refine(g.o _ (by exact cg cR)).mono ?_;rintro e w2 ⟨T,O,Q,ys,G,rfl,q,z,A,B,C⟩;have D:=hZ q;have E:=hZ z;have H:=hZ A;have I:=hZ B;have J:=hZ C;obtain⟨L,M,rfl,_⟩:=q.row.form;clear q z A B C;unfold BJ))
   refine bodyPost_ret (results_tmp rfl _ _ _) rfl ?_;subst s;exact GC (by exact cg cR) D.o E.o H.o I.o J.o (Ac.new w2 (BJ r.toI (.slice L r.toI.steps.length M)) 42) (Q8 _) (by exact cg cR)
  .rw[Qs m,Hz]
   rw[show Cq W j (W::(d++bs)) t (x:=x) ts=fun b=>AZ 3 (W::(d++bs)) b from funext fun b=>Hv i (by simpa using m)]at g;go_enter func128,ntmps128
   go_wp2_with(first
    |(go_at_call 166;refine(g.o _ (by exact cg cR)).mono ?_;rintro e w2 ⟨l,h⟩;unfold By at l;subst l;have o:=UD (Chg w w2 (W::(d++bs))) (ct cR h);clear h))
   exact⟨rfl,rfl,o.o⟩
def YN(t:Tr)(a:List BY):PV:=if a=[]then .no 176 else match Ah t a with
 |none=> .no 4
 |some u=> .yes (A8 t a) [⟨1,A6 a,Dz,Ai u⟩]
theorem Tw(W:Nat)(t:Tr)(v j:Vl)(bs:List Nat)(F:Nat->Prop)(a:Option Addr)(c:Nat)(ts:List BY)(k:Int)(p f:BY)(sv ad vx:Vl)(w:Wl)(h:UI W t v j bs F (.slice a ts.length c) ts w):
  Cl prog 129 #[.pointer (some ⟨W,0,none⟩),.agg #[.int .i64 k,.string p,.string f,sv,.slice a ts.length c,ad,vx]] w (BC W j (W::bs) (YN t ts) w):=by
 unfold YN;by_cases n:ts=[]
 .subst n
  rw[Qr rfl,Hz];clear h;go_enter func129,ntmps129
  go_wp2_with(first
   |(go_at_call 53;refine(Bu _ _).mono ?_;rintro e w2 ⟨l,h⟩;unfold By at l;subst l;have x:=UD (Chg w w2 []) (ct cR h);clear h))
  exact⟨rfl,rfl,x.o.none _⟩
 .rw[Qs n]
  have K:0<ts.length:=List.length_pos_iff.2 n;have aa:ts.length<=65536:=h.tat.ok.many;have g:=UD (∀d,Chg w d []->Cl prog 167 #[.pointer (some ⟨W,0,none⟩),.slice a ts.length c] d (EC W j (W::bs) t ts d)) fun d hx=>Xw W t v j bs F a c ts d (h.kept hx) n
  obtain⟨m,J⟩:=Ue ts.length
  rw[<-J]at g K aa|-;have af:(0:Int)<m:=Zj
  have hd:decide (0<m)=true:=by simpa using K
  clear h J n
  cases q:Ah t ts with
  |none=>
   rw[Hz];rw[show EC W j (W::bs) t ts=fun d=>AZ 4 (W::bs) d from funext fun d=>JE q]at g;go_enter func129,ntmps129
   go_wp2_with(first
    |(go_at_call_of 53 (Vl.bool true);refine(Bv _ _).mono ?_;rintro e w4 ⟨rfl,rfl⟩)
    |(go_at_call 167;refine(g.o _ (by exact cg cR)).mono ?_;rintro e w2 ⟨l,h⟩;unfold By at l;subst l;have x:=UD (Chg w w2 (W::bs)) (ct cR h);clear h))
   exact⟨rfl,rfl,x.o⟩
  |some u=>
   dsimp only
   rw[show EC W j (W::bs) t ts=fun d=>T6 W j (W::bs) (A8 t ts) u (AC 1 ts (Ai u)) d from funext fun d=>JF q]at g;obtain⟨r,y⟩:=Ue ((⟨1,A6 ts,Dz,Ai u⟩:CW))
   obtain⟨t',z⟩:=Ue (A8 t ts)
   rw[show AC 1 ts (Ai u)=r.toI by rw[y];rfl,<-z]at g;rw[<-y,<-z];obtain⟨s,o⟩:=Ue r.toI
   rw[<-o]at g;have T:=hZ o;clear y z q o;go_enter func129,ntmps129
   go_wp2_with(first
    |(go_at_call_of 53 (Vl.bool true);refine(Bv _ _).mono ?_;rintro e w4 ⟨rfl,rfl⟩)
    |(go_at_call 167;refine(g.o _ (by exact cg cR)).mono ?_;rintro e w2 ⟨vu,bu,v',ae,ag,ys,G,rfl,A,k2,M,N,O,P⟩;have U:=hZ A;have V:=hZ M;have X:=hZ N;have Y:=hZ O;have Z:=hZ P;obtain⟨B,C,rfl,_⟩:=A.row.form;clear A k2 M N O P)
    |(refine Ae rfl _ _ _ rfl w2.heap.size (BJ s (.slice B s.steps.length C)) ZN ZN 42 Ef (by exact Ac.new w2 Ef 42) A0 rfl (Dx _ _ _ _) ?_;intro Q L E I;have R:=hZ E;have S:=hZ I;have D:=hZ L;clear L E I)
    |(refine Bp rfl _ _ rfl w2.heap.size ZN 42 (BJ s (.slice B s.steps.length C)) R.o _ underlying42 rfl A0 ?_;unfold BJ))
   all_goals(have ab:=D.o;have D:Q.heap.size=w2.heap.size+1:=by simpa using ab)
   have o:=T.o;subst o;refine bodyPost_ret (results_tmp rfl _ _ _) rfl ?_;exact GC (by exact cg cR) U.o V.o (X.o.sub Zh) Y.o (fun b H=>Z.o b (by simp at H|-;rcases H with h|h<;>simp[h])) (w2:=w2) (Ac.new Q (BJ r.toI (.slice B r.toI.steps.length C)) 42) Zj (Chg.alloc (Chg.step (Chg.alloc cR _) S.o (fun i hi q=>by simp at hi;omega)) _)
def Uq(t:Tr)(a:List BY)(x:Tr):PV:=match Ah t a with
 |none=> .no 4
 |some u=>Kj (AE t a x) [⟨3,A6 a,Dz,Ai u⟩]
theorem Ry(W:Nat)(t x:Tr)(v i n:Vl)(bs d:List Nat)(F:Nat->Prop)(a:Option Addr)(c:Nat)(ts:List BY)(k:Int)(p f:BY)(sv O:Vl)(w:Wl)(h:Sx W t x v i n bs d F (.slice a ts.length c) ts w):
  Cl prog 130 #[.pointer (some ⟨W,0,none⟩),.agg #[.int .i64 k,.string p,.string f,sv,.slice a ts.length c,O,n]] w (BC W i (W::(d++bs)) (Uq t ts x) w):=by
 have g:=UD (∀b,Chg w b []->Cl prog 168 #[.pointer (some ⟨W,0,none⟩),.slice a ts.length c,n] b (Du W i (W::(d++bs)) t x ts b)) fun b L=>ae W t x v i n bs d F a c ts b (h.kept L)
 obtain⟨T,V,rfl⟩:=h.xat.iface;clear h;unfold Uq
 cases m:Ah t ts with
 |none=>
  rw[Hz];rw[show Du W i (W::(d++bs)) t (x:=x) ts=fun b=>AZ 4 (W::(d++bs)) b from funext fun b=>RP m]at g;go_enter func130,ntmps130
  go_wp2_with(first
   |(go_at_call 168;refine(g.o _ (by exact cg cR)).mono ?_;rintro e w2 ⟨j,h⟩;unfold By at j;subst j;have o:=UD (Chg w w2 (W::(d++bs))) (ct cR h);clear h))
  exact⟨rfl,rfl,o.o⟩
 |some u=>
  dsimp only
  unfold Kj;by_cases l:(Ag (AE t ts x)).within=true
  .rw[Qr l]
   rw[show Du W i (W::(d++bs)) t (x:=x) ts=fun b=>ET W i (W::(d++bs)) (AE t ts x) (Uu ts u) b from funext fun b=>Pr m l]at g;obtain⟨r,q⟩:=Ue ((⟨3,A6 ts,Dz,Ai u⟩:CW))
   obtain⟨S,s⟩:=Ue (AE t ts x)
   rw[show Uu ts u=r.toI by rw[q];rfl,<-s]at g;rw[<-q,<-s];obtain⟨Q,z⟩:=Ue r.toI
   rw[<-z]at g;clear q s l m;go_enter func130,ntmps130
   go_wp2_with(first
    |(go_at_call 168;refine(g.o _ (by exact cg cR)).mono ?_;rintro e w2 ⟨U,P,R,ys,G,rfl,y,A,B,C,D⟩;have E:=hZ y;have H:=hZ A;have I:=hZ B;have J:=hZ C;have K:=hZ D;obtain⟨M,N,rfl,_⟩:=y.row.form;clear y A B C D;unfold BJ))
   refine bodyPost_ret (results_tmp rfl _ _ _) rfl ?_;subst z;exact GC (by exact cg cR) E.o H.o I.o J.o K.o (Ac.new w2 (BJ r.toI (.slice M r.toI.steps.length N)) 42) (Q8 _) (by exact cg cR)
  .rw[Qs l,Hz]
   rw[show Du W i (W::(d++bs)) t (x:=x) ts=fun b=>AZ 3 (W::(d++bs)) b from funext fun b=>J0 m (by simpa using l)]at g;go_enter func130,ntmps130
   go_wp2_with(first
    |(go_at_call 168;refine(g.o _ (by exact cg cR)).mono ?_;rintro e w2 ⟨j,h⟩;unfold By at j;subst j;have o:=UD (Chg w w2 (W::(d++bs))) (ct cR h);clear h))
   exact⟨rfl,rfl,o.o⟩
def PX(V:Nat->Vl->Prop)(w0:Wl)(d:Nat->Bool)(f:Nat->Vl)(w:Wl):Prop:=Chg w0 w []/\∀j,d j=true->V j (f j)
theorem PX.put{V:Nat->Vl->Prop}{w0 w w':Wl}{d:Nat->Bool}{f:Nat->Vl}{j:Nat}{v:Vl}(h:PX V w0 d f w)(c:V j v)(b:Chg w w' []):PX V w0 (BA d j) (Eb f j v) w':=
 ⟨h.1.trans b,fun k a=>by
  by_cases e:k=j
  .subst e;rw[Bf];exact c
  .rw[AA f v e];rw[An d e]at a;exact h.2 k a⟩
def M6(t:Tr)(a:List BY)(x:Tr):PV:=match Ah t a with
 |none=> .no 4
 |some u=>if BQ u x=true then .yes t []else .no 173
def OI(W B:Nat)(t x:Tr)(ts:List BY)(a b c:Vl)(j:Nat)(v:Vl):Prop:=match j with
 |0=>v= .pointer (some ⟨W,0,none⟩)
 |1=>v= .pointer (some ⟨B,4,none⟩)
 |2=>v=a
 |3=>v=b/\∃u,Ah t ts=some u
 |4=>v= .pointer (some ⟨B,6,none⟩)
 |5=>v=c
 |6=>∃u,Ah t ts=some u/\v= .bool (BQ u x)
 |7=>∃u,Ah t ts=some u/\BQ u x=true
 |_=>True
theorem QE{W:Nat}{d v:Vl}{bs c:List Nat}{t:Tr}{w w':Wl}(f:Hu w W t v d bs)(e:DJ w c (W::bs))(a:Chg w w' []):BC W d c (.yes t []) w (.returned (.slice none 0 0)) w':=
 ⟨v,bs,_,_,_,rfl,EW.none w w',f.kept a,e,a.none _,fun b g h=>h⟩
theorem Xr(W:Nat)(t x:Tr)(v uv G:Vl)(bs I:List Nat)(F:Nat->Prop)(q:Option Addr)(c:Nat)(ts:List BY)(k:Int)(p f:BY)(sv M:Vl)(ao:Av x)(w:Wl)(h:Sx W t x v uv G bs I F (.slice q ts.length c) ts w):
  Cl prog 133 #[.pointer (some ⟨W,0,none⟩),.agg #[.int .i64 k,.string p,.string f,sv,.slice q ts.length c,M,G]] w (BC W uv (W::(I++bs)) (M6 t ts x) w):=by
 obtain⟨o,X,V⟩:∃o,(∀y,Chg w y []->Cl prog 170 #[.pointer (some ⟨W,0,none⟩),.slice q ts.length c] y (fun e w'=>Chg y w' []/\match Ah t ts with
   |none=>e=By 4
   |some u=>e= .returned o/\True))/\∀u,Ah t ts=some u->∀B,Chg w B []->Cl prog 171 #[o,G] B (BU (BQ u x) B):=by
  cases g:Ah t ts with
  |none=>exact⟨.nilIface,fun y L=>(Im h.laid h.wat h.tat g y L).mono fun e w' ⟨i,j⟩=>⟨j,i⟩,fun u e=>by cases e⟩
  |some u=>
   obtain⟨o,bu,rest,hf⟩:=EU h.wat.at_ _ ts _ rfl g;refine⟨o,fun y L=>(Dl h.laid h.wat h.tat hf y L).mono fun e w' ⟨i,j⟩=>⟨j,i,trivial⟩,fun u' e B hy=> ?_⟩
   injection e with e;subst e
   have aa:=h.wat.fine.lead g;exact ZB _ u x o G _ _ B (Q8 _) (Ar aa.fits).1 aa.good ao (hf.at_.chg hy Zh) (h.xat.chg hy Zh)
 have Q:=hZ X;have am:=hZ V;clear X V;obtain⟨E,H,ap⟩:=h.xat.iface;subst ap;have HW:=hZ h.wat;have T:DJ w (W::(I++bs)) (W::bs):=(DJ.refl h.nodup).sub Zh;have HO:=hZ T;obtain⟨D,ab⟩:=Ue ts.length
 rw[<-ab]at Q|-;have aq:=h.xat;clear h T ab aq;go_enter func133,ntmps133
 go_wp2_with fail
 obtain⟨O,C⟩:=Ue (World.drew (w.alloc (.cells #[.int .i64 k,.string p,.string f,sv,.slice q D c,M,.iface E H] 111)))
 have an:=hZ C;have z:Hid (Chg w O []):=by rw[C];exact hZ (((Chg.refl w []).alloc _).drew)
 have P:Hid (Ac O w.heap.size [.int .i64 k,.string p,.string f,sv,.slice q D c,M,.iface E H] 111):=by rw[C];exact hZ (Ac.new w _ _).drew
 clear C;refine wp_region_any Yb ?_;change wpAny _ _ _ _ _ _ _ (World.drew _);rw[<-an.o];refine Gy _ (PX (OI W w.heap.size t x ts (.slice q D c) o (.iface E H)) O) Yb ?_ ?_ _ ?_
 .intro ii op a wa dd d l au r b K m
  match ii,d with
  |0,d=>
   obtain rfl:=Q5 d;have h0:a.tmps.getD 0 undef= .pointer (some ⟨W,0,none⟩):=l.at 0 Yb;go_simp
   exact m _ _ Zh (b.put (by simp[OI]) cR)
  |1,d=>
   obtain rfl:=Q5 d;have S:a.tmps.getD 3 undef= .pointer (some ⟨w.heap.size,0,none⟩):=l.at 3 Yb;go_simp
   exact m _ _ Zh (b.put (by simp[OI]) cR)
  |2,d=>
   obtain rfl:=Q5 d;have hp:a.tmps.getD 6 undef= .pointer (some ⟨w.heap.size,4,none⟩):=b.2 1 (r ⟨1,.data⟩ Zh rfl);have J:=P.o.kept b.1;have K:=J.cell 4;simp only[Qa,Qb]at K;go_simp
   exact m _ _ Zh (b.put (by simp[OI]) cR)
  |3,d=>
   obtain rfl:=Q5 d;have h5:a.tmps.getD 5 undef= .pointer (some ⟨W,0,none⟩):=b.2 0 (r ⟨0,.data⟩ Zh rfl);have h7:a.tmps.getD 7 undef= .slice q D c:=b.2 2 (r ⟨2,.data⟩ Zh rfl);go_simp
   go_at_call 170;refine(Q.o wa (z.o.trans b.1)).mono ?_;rintro e N ⟨i,j⟩
   cases g:Ah t ts with
   |none=>
    rw[g]at j
    dsimp only at j
    unfold By at j;subst j;unfold M6;rw[g];exact⟨l.defers,rfl,((z.o.trans b.1).trans i).none _⟩
   |some u=>
    rw[g]at j;obtain⟨rfl,S⟩:=j;exact m _ _ Zh (b.put ⟨rfl,u,g⟩ i)
  |4,d=>
   obtain rfl:=Q5 d;have S:a.tmps.getD 3 undef= .pointer (some ⟨w.heap.size,0,none⟩):=l.at 3 Yb;go_simp
   exact m _ _ Zh (b.put (by simp[OI]) cR)
  |5,d=>
   obtain rfl:=Q5 d;have hp:a.tmps.getD 9 undef= .pointer (some ⟨w.heap.size,6,none⟩):=b.2 4 (r ⟨4,.data⟩ Zh rfl);have J:=P.o.kept b.1;have K:=J.cell 6;simp only[Qa,Qb]at K;go_simp
   exact m _ _ Zh (b.put (by simp[OI]) cR)
  |6,d=>
   obtain rfl:=Q5 d;obtain⟨h8,u,g⟩:a.tmps.getD 8 undef=o/\∃u,Ah t ts=some u:=b.2 3 (r ⟨3,.data⟩ Zh rfl)
   have ar:a.tmps.getD 10 undef= .iface E H:=b.2 5 (r ⟨5,.data⟩ Zh rfl);have HS:=am.o u g wa (z.o.trans b.1);go_simp
   go_at_call 171;refine HS.mono ?_;rintro e N ⟨rfl,i⟩;exact m _ _ Zh (b.put ⟨u,g,rfl⟩ i)
  |7,d=>
   obtain rfl:=Q5 d;obtain⟨u,g,R⟩:∃u,Ah t ts=some u/\a.tmps.getD 11 undef= .bool (BQ u x):=b.2 6 (r ⟨6,.data⟩ Zh rfl)
   cases s:BQ u x with
   |true=>
    rw[s]at R;go_simp
    go_at_call 53;refine(Bv _ _).mono ?_;rintro e N ⟨rfl,rfl⟩;exact m _ _ Zh (b.put ⟨u,g,s⟩ cR)
   |false=>
    rw[s]at R;go_simp
    go_at_call 53;refine(Bu _ _).mono ?_;rintro e N ⟨he,i⟩;unfold By at he;subst he;unfold M6;rw[g]
    dsimp only
    rw[s];exact⟨l.defers,rfl,((z.o.trans b.1).trans i).none _⟩
  |_+8,d=>exact absurd d Zh
 .intro a wR dd l Y b
  obtain⟨u,g,s⟩:∃u,Ah t ts=some u/\BQ u x=true:=b.2 7 (Y 7 ZM)
  have HR:=UD (Chg w wR []) (z.o.trans b.1);have U:M6 t ts x= .yes t []:=by unfold M6;rw[g];dsimp only;rw[Qr s]
  have al:=hZ U;clear b Y g s U;have A:=l.form' [5,6,7,8,9,10,11,12] Yb;have Z:=l.defers;obtain⟨n,df⟩:=a;clear l
  dsimp only at A Z
  simp only[List.foldl_cons,List.foldl_nil]at A;obtain⟨u5,ag⟩:=Ue (n.getD 5 undef)
  obtain⟨u6,ah⟩:=Ue (n.getD 6 undef)
  obtain⟨u7,ai⟩:=Ue (n.getD 7 undef)
  obtain⟨u8,aj⟩:=Ue (n.getD 8 undef)
  obtain⟨u9,ak⟩:=Ue (n.getD 9 undef)
  obtain⟨u10,ad⟩:=Ue (n.getD 10 undef)
  obtain⟨u11,ae⟩:=Ue (n.getD 11 undef)
  obtain⟨u12,af⟩:=Ue (n.getD 12 undef)
  rw[<-ag,<-ah,<-ai,<-aj,<-ak,<-ad,<-ae,<-af]at A;clear ag ah ai aj ak ad ae af;simp only[List.setIfInBounds_toArray,List.set_cons_zero,List.set_cons_succ]at A;subst A;subst Z;go_wp2_with fail
  refine bodyPost_ret (results_tmp rfl _ _ _) rfl ?_;rw[al.o];exact QE HW.o HO.o HR.o
 .exact⟨Chg.refl _ _,fun _ e=>by cases e⟩
end
section
open Go Go.Shelf Go.RowKit Go.Lib Tree Ptr
theorem NS{W:Nat}{g:Vl}{b:List Nat}{t x:Tr}{ts:List BY}{w w':Wl}{e:Ending}(a:List CW)(h:Cq W g b t x ts w e w'):
  (∃n,Ga t ts x a= .no n/\e=By n/\Chg w w' b)\/(∃f,Ga t ts x a= .yes f (Dd t ts::a)/\ET W g b f (Dd t ts).toI w e w'):=by
 unfold Cq at h;unfold Ga;by_cases c:EN t ts≠0
 .rw[Qr c]at h|-
  exact .inl ⟨_,rfl,h.1,h.2⟩
 .rw[Qs c]at h|-
  unfold Kj;by_cases d:(Ag (At t ts x)).within=true
  .rw[Qr d]at h|-
   exact .inr ⟨_,rfl,h⟩
  .rw[Qs d]at h|-
   exact .inl ⟨_,rfl,h.1,h.2⟩
theorem I3{P:Program}{o:Oper}{a:Act}{Q:Exit->Act->Wl->Prop}{K:Act->Wl->Prop}{w:Wl}(r:Operand)(b:String)(m:Array Ti)(j:o.op= .call {callee:= .invoke r b,args:=#[],argTypes:=m})(v:Vl)(l:a.eval r=v)(f:FuncId)(args:Array Vl)(i:(callMethod v b #[]).run P w= .ok (.enter f args) w)(R:Ending->Wl->Prop)(d:Cl P f args w R)(c:∀e w2,R e w2->∃u,e= .returned u/\K (a.put o.dst u) w2):Oper.wp P o a w K Q:=by
 unfold Oper.wp
 have g:(execOp a.eval o).run P w= .ok (.enter f args) w:=by
  simp[execOp,j,resolve,invoke,l,i]
 rw[g];refine d.mono fun e w2 h=> ?_
 obtain⟨u,rfl,k⟩:=c e w2 h;exact k
structure IL(w4:Wl)(V:Nat->Vl->Prop)(P7 P8 P9:Vl->Wl->Prop)(d:Nat->Bool)(f:Nat->Vl)(w:Wl):Prop where
 early:d 8=false->Chg w4 w []
 vals:∀j,j<7->d j=true->V j (f j)
 o7:d 7=true->d 6=true
 o8:d 8=true->∀j,j<8->d j=true
 o9:d 9=true->d 8=true
 o10:d 10=true->d 9=true
 p7:d 7=true->d 8=false->P7 (f 7) w
 p8:d 8=true->d 9=false->P8 (f 8) w
 p9:d 9=true->P9 (f 9) w
 p10:d 10=true->f 10=f 9
section
variable {w4:Wl} {V:Nat->Vl->Prop} {P7 P8 P9:Vl->Wl->Prop} {d:Nat->Bool} {f:Nat->Vl} {w w':Wl}
theorem IL.read{j:Nat}{v:Vl}(h:IL w4 V P7 P8 P9 d f w)(r:j<7)(g:d j=false)(p:V j v)(o:Chg w w' [])(q:w'=w\/j=6):IL w4 V P7 P8 P9 (BA d j) (Eb f j v) w':=by
 have n:∀k,k≠j->BA d j k=d k:=fun k a=>An d a
 have m:∀k,k≠j->Eb f j v k=f k:=fun k a=>AA f v a
 have b:d 8=false:=by cases e:d 8 with
  |false=>rfl
  |true=>rw[h.o8 e j Zj]at g;cases g
 have c:d 9=false:=by cases e:d 9 with
  |false=>rfl
  |true=>rw[h.o9 e]at b;cases b
 have i:d 10=false:=by cases e:d 10 with
  |false=>rfl
  |true=>rw[h.o10 e]at c;cases c
 have up:∀k,d k=true->BA d j k=true:=fun k a=>by unfold BA;split;rfl;exact a
 refine⟨?_, ?_, ?_, ?_, ?_, ?_, ?_, ?_, ?_, ?_⟩<;>try simp only[n 7 Zj,n 8 Zj,n 9 Zj,n 10 Zj,m 7 Zj,m 8 Zj,m 9 Zj,m 10 Zj]
 .exact fun _=>(h.early b).trans o
 .intro k a l
  by_cases e:k=j
  .subst e;rw[Bf];exact p
  .rw[m k e];rw[n k e]at l;exact h.vals k a l
 .exact fun e=>up 6 (h.o7 e)
 .rw[b];intro e;cases e
 .rw[c];intro e;cases e
 .rw[i];intro e;cases e
 .intro e _
  rcases q with rfl|rfl
  .exact h.p7 e b
  .rw[h.o7 e]at g;cases g
 .rw[b];intro e;cases e
 .rw[c];intro e;cases e
 .rw[i];intro e;cases e
theorem IL.made{v:Vl}(h:IL w4 V P7 P8 P9 d f w)(i:d 7=false)(l:d 6=true)(p:P7 v w')(o:Chg w w' []):IL w4 V P7 P8 P9 (BA d 7) (Eb f 7 v) w':=by
 have n:∀k,k≠7->BA d 7 k=d k:=fun k b=>An d b
 have m:∀k,k≠7->Eb f 7 v k=f k:=fun k b=>AA f v b
 have a:d 8=false:=by cases e:d 8 with
  |false=>rfl
  |true=>rw[h.o8 e 7 Zj]at i;cases i
 have c:d 9=false:=by cases e:d 9 with
  |false=>rfl
  |true=>rw[h.o9 e]at a;cases a
 have g:d 10=false:=by cases e:d 10 with
  |false=>rfl
  |true=>rw[h.o10 e]at c;cases c
 refine⟨?_, ?_, ?_, ?_, ?_, ?_, ?_, ?_, ?_, ?_⟩<;>try simp only[n 6 Zj,n 8 Zj,n 9 Zj,n 10 Zj,Bf,m 8 Zj,m 9 Zj,m 10 Zj]
 .exact fun _=>(h.early a).trans o
 .intro k b j
  rw[m k Zj];rw[n k Zj]at j;exact h.vals k b j
 .exact fun _=>l
 .rw[a];intro e;cases e
 .rw[c];intro e;cases e
 .rw[g];intro e;cases e
 .exact fun _ _=>p
 .rw[a];intro e;cases e
 .rw[c];intro e;cases e
 .rw[g];intro e;cases e
theorem IL.added{v:Vl}(h:IL w4 V P7 P8 P9 d f w)(g:d 8=false)(l:∀j,j<8->d j=true)(p:P8 v w'):IL w4 V P7 P8 P9 (BA d 8) (Eb f 8 v) w':=by
 have n:∀k,k≠8->BA d 8 k=d k:=fun k a=>An d a
 have m:∀k,k≠8->Eb f 8 v k=f k:=fun k a=>AA f v a
 have b:d 9=false:=by cases e:d 9 with
  |false=>rfl
  |true=>rw[h.o9 e]at g;cases g
 have c:d 10=false:=by cases e:d 10 with
  |false=>rfl
  |true=>rw[h.o10 e]at b;cases b
 refine⟨?_, ?_, ?_, ?_, ?_, ?_, ?_, ?_, ?_, ?_⟩<;>try simp only[n 6 Zj,n 7 Zj,n 9 Zj,n 10 Zj,Bf,BG,m 7 Zj,m 9 Zj,m 10 Zj]
 .intro e;cases e
 .intro k a i
  rw[m k Zj];rw[n k Zj]at i;exact h.vals k a i
 .exact h.o7
 .intro _ j o;rw[n j Zj];exact l j o
 .rw[b];intro e;cases e
 .rw[c];intro e;cases e
 .intro _ e;cases e
 .exact fun _ _=>p
 .rw[b];intro e;cases e
 .rw[c];intro e;cases e
theorem IL.built{v:Vl}(h:IL w4 V P7 P8 P9 d f w)(g:d 9=false)(b:d 8=true)(o:P9 v w'):IL w4 V P7 P8 P9 (BA d 9) (Eb f 9 v) w':=by
 have n:∀k,k≠9->BA d 9 k=d k:=fun k a=>An d a
 have m:∀k,k≠9->Eb f 9 v k=f k:=fun k a=>AA f v a
 have c:d 10=false:=by cases e:d 10 with
  |false=>rfl
  |true=>rw[h.o10 e]at g;cases g
 refine⟨?_, ?_, ?_, ?_, ?_, ?_, ?_, ?_, ?_, ?_⟩<;>try simp only[n 6 Zj,n 7 Zj,n 8 Zj,n 10 Zj,Bf,BG,m 7 Zj,m 8 Zj,m 10 Zj]
 .rw[b];intro e;cases e
 .intro k a i
  rw[m k Zj];rw[n k Zj]at i;exact h.vals k a i
 .exact h.o7
 .intro e j l;rw[n j Zj];exact h.o8 e j l
 .exact fun _=>b
 .rw[c];intro e;cases e
 .rw[b];intro _ e;cases e
 .intro _ e;cases e
 .exact fun _=>o
 .rw[c];intro e;cases e
theorem IL.end_(h:IL w4 V P7 P8 P9 d f w)(b:d 9=true):IL w4 V P7 P8 P9 (BA d 10) (Eb f 10 (f 9)) w:=by
 have n:∀k,k≠10->BA d 10 k=d k:=fun k a=>An d a
 have m:∀k,k≠10->Eb f 10 (f 9) k=f k:=fun k a=>AA f _ a
 have i:=h.o9 b;refine⟨?_, ?_, ?_, ?_, ?_, ?_, ?_, ?_, ?_, ?_⟩<;>try simp only[n 6 Zj,n 7 Zj,n 8 Zj,n 9 Zj,Bf,BG,m 7 Zj,m 8 Zj,m 9 Zj]
 .exact h.early
 .intro k a c
  rw[m k Zj];rw[n k Zj]at c;exact h.vals k a c
 .exact h.o7
 .intro e j g;rw[n j Zj];exact h.o8 e j g
 .exact h.o9
 .exact fun _=>b
 .exact h.p7
 .exact h.p8
 .exact h.p9
 .exact fun _=>trivial
end
end
section
open _root_.Go.Proofs.Tryz
open Go Go.Shelf Go.RowKit Go.Lib Tree Ptr
theorem Mg(s p:BY)(w:Wl):
  Cl prog 204 #[.string s,.string p] w fun e w'=>e= .returned (.bool (Lib.hasPrefix s.data.toList p.data.toList))/\w'=w:=by
 rw[<-Lib.hasPrefix_of_take,<-Lib.size_eq,<-Lib.size_eq];go_enter func204,ntmps204
 go_wp2
 .rename_i h
  go_ret
  refine⟨?_,rfl⟩
  show Ending.returned (Vl.bool ((s.extract 0 p.size).toList==p.toList))=_
  rw[Lib.extract_toList,Lib.toList_data];simp[h]
 .rename_i h
  go_ret
  refine⟨?_,rfl⟩
  show Ending.returned (Vl.bool false)=_
  simp[h]
theorem EH(s p:BY)(w:Wl):
  Cl prog 169 #[.string s,.string p] w fun e w'=>e= .returned (.bool (Lib.hasPrefix s.data.toList p.data.toList))/\w'=w:=by
 have a:=hZ (Mg s p);go_enter func169,ntmps169
 go_wp2_with(first
  |(go_at_call 204;refine(a.o _).mono ?_;rintro e b ⟨rfl,rfl⟩))
 go_ret
 exact⟨rfl,rfl⟩
theorem GR(a b:BY):Lib.hasPrefix a.data.toList (b++(⟨#[47]⟩:BY)).data.toList=EV a b:=by
 unfold EV Lib.hasPrefix;simp
def dJ(d w:Wl)(T:Ti)(c:Vl)(l:List Vl)(u:Vl)(lit a:Bool)(e b:Vl):Prop:=
 (a=false->AK w c T l)/\(a=true->AK w b T (l++[u])/\∀g,b.ownBlock=some g->c.ownBlock=some g\/d.heap.size<=g)/\
 (lit=true->a=false->∃g,e= .slice (some ⟨g,0,none⟩) 1 1/\d.heap.size<=g/\Ac w g [u] T)
theorem dJ.kept{j w w':Wl}{T:Ti}{i u n m:Vl}{l:List Vl}{lit k:Bool}{cs:List Nat}(h:dJ j w T i l u lit k n m)(d:Chg w w' cs)(c:∀x∈cs,x<j.heap.size/\i.ownBlock≠some x:=by simp):dJ j w' T i l u lit k n m:=
 ⟨fun e=>(h.1 e).kept d (fun g f a=>(c g a).2 f),fun e=>⟨(h.2.1 e).1.kept d (fun g f a=>by
  rcases(h.2.1 e).2 g f with b|b
  .exact(c g a).2 b
  .have:=(c g a).1;omega),(h.2.1 e).2⟩,fun o p=>by
  obtain⟨g,b,q,r⟩:=h.2.2 o p
  exact⟨g,b,q,r.kept d (fun a=>by have:=(c g a).1;omega)⟩⟩
structure dL(w:Wl)(X b:Nat)(sl sk:Vl)(vs kl:List Vl):Prop where
 cell:Ac w X [.pointer (some ⟨b,0,none⟩)] 175
 blk:Ac w b [sl,sk] 177
 items:AK w sl 95 vs
 keys:AK w sk 9 kl
 ne:X≠b
 ni:∀g,sl.ownBlock=some g->g≠b/\g≠X
 nk:∀g,sk.ownBlock=some g->g≠b/\g≠X/\sl.ownBlock≠some g
def dI(b:Nat)(a:BY)(c sk v:Vl)(j:Nat)(y:Vl):Prop:=match j with
 |0=>y= .pointer (some ⟨b,0,none⟩)
 |1=>y= .pointer (some ⟨b,0,none⟩)
 |2=>y= .pointer (some ⟨b,0,none⟩)
 |3=>y= .pointer (some ⟨b,0,none⟩)
 |4=>y= .pointer (some ⟨b,1,none⟩)
 |5=>y=sk
 |6=>y= .string a
 |9=>y= .pointer (some ⟨b,0,none⟩)
 |10=>y= .pointer (some ⟨b,0,none⟩)
 |11=>y= .pointer (some ⟨b,0,none⟩)
 |12=>y= .pointer (some ⟨b,0,none⟩)
 |13=>y=c
 |14=>y=v
 |17=>y= .pointer (some ⟨b,0,none⟩)
 |18=>y= .pointer (some ⟨b,1,none⟩)
 |20=>y= .pointer (some ⟨b,0,none⟩)
 |21=>y= .pointer (some ⟨b,0,none⟩)
 |22=>y= .pointer (some ⟨b,0,none⟩)
 |_=>True
structure dH(w4:Wl)(X b:Nat)(sl sk:Vl)(vs kl:List Vl)(key:BY)(v:Vl)(d:Nat->Bool)(f:Nat->Vl)(w:Wl):Prop where
 chg:Chg w4 w (b::(sl.ownBlock.toList++sk.ownBlock.toList))
 vals:∀j,d j=true->dI b key sl sk v j (f j)
 cell:Ac w X [.pointer (some ⟨b,0,none⟩)] 175
 blk:Ac w b [if d 23 then f 16 else sl,if d 19 then f 8 else sk] 177
 keys:dJ w4 w 9 sk kl (.string key) (d 7) (d 8) (f 7) (f 8)
 items:dJ w4 w 95 sl vs v (d 15) (d 16) (f 15) (f 16)
 sep:d 8=true->d 16=true->∀g,(f 8).ownBlock=some g->(f 16).ownBlock≠some g
section
variable {w4 w w':Wl} {X b:Nat} {sl sk v:Vl} {vs kl:List Vl} {key:BY} {d:Nat->Bool} {f:Nat->Vl}
theorem dH.vals'{j:Nat}{y:Vl}(h:dH w4 X b sl sk vs kl key v d f w)(c:dI b key sl sk v j y):∀k,BA d j k=true->dI b key sl sk v k (Eb f j y k):=fun k a=>by
 by_cases e:k=j
 .subst e;rw[Bf];exact c
 .rw[AA f y e];rw[An d e]at a;exact h.vals k a
theorem dH.put{j:Nat}{y:Vl}(h:dH w4 X b sl sk vs kl key v d f w)(l:j≠7/\j≠8/\j≠15/\j≠16/\j≠19/\j≠23)(m:dI b key sl sk v j y):dH w4 X b sl sk vs kl key v (BA d j) (Eb f j y) w:=by
 obtain⟨g,c,e,a,i,k⟩:=l;refine⟨h.chg,h.vals' m,h.cell, ?_, ?_, ?_, ?_⟩
 .rw[An d (Ne.symm k),An d (Ne.symm i),AA f y (Ne.symm a),AA f y (Ne.symm c)];exact h.blk
 .rw[An d (Ne.symm g),An d (Ne.symm c),AA f y (Ne.symm g),AA f y (Ne.symm c)];exact h.keys
 .rw[An d (Ne.symm e),An d (Ne.symm a),AA f y (Ne.symm e),AA f y (Ne.symm a)];exact h.items
 .rw[An d (Ne.symm c),An d (Ne.symm a),AA f y (Ne.symm c),AA f y (Ne.symm a)];exact h.sep
theorem dH.lit7{g:Nat}(h:dH w4 X b sl sk vs kl key v d f w)(i:d 8=false)(a:Chg w w' [])(k:w.heap.size<=g)(j:Ac w' g [.string key] 9):dH w4 X b sl sk vs kl key v (BA d 7) (Eb f 7 (.slice (some ⟨g,0,none⟩) 1 1)) w':=by
 refine⟨h.chg.trans (a.none _),h.vals' trivial,h.cell.kept a, ?_, ?_, ?_, ?_⟩
 .rw[An d ZM,An d ZM,AA f _ ZM,AA f _ ZM];exact h.blk.kept a
 .have c:=h.keys.kept a
  refine⟨fun e=>c.1 (by rw[An d ZM]at e;exact e),fun e=> ?_,fun _ _=>⟨g,by rw[Bf],Q7 h.chg.size k,j⟩⟩;rw[An d ZM,i]at e;cases e
 .have c:=h.items.kept a
  rw[An d ZM,An d ZM,AA f _ ZM,AA f _ ZM];exact c
 .rw[An d ZM,An d ZM,AA f _ ZM,AA f _ ZM];exact h.sep
theorem dH.lit15{g:Nat}(h:dH w4 X b sl sk vs kl key v d f w)(i:d 16=false)(a:Chg w w' [])(k:w.heap.size<=g)(j:Ac w' g [v] 95):dH w4 X b sl sk vs kl key v (BA d 15) (Eb f 15 (.slice (some ⟨g,0,none⟩) 1 1)) w':=by
 refine⟨h.chg.trans (a.none _),h.vals' trivial,h.cell.kept a, ?_, ?_, ?_, ?_⟩
 .rw[An d ZM,An d ZM,AA f _ ZM,AA f _ ZM];exact h.blk.kept a
 .have c:=h.keys.kept a
  rw[An d ZM,An d ZM,AA f _ ZM,AA f _ ZM];exact c
 .have c:=h.items.kept a
  refine⟨fun e=>c.1 (by rw[An d ZM]at e;exact e),fun e=> ?_,fun _ _=>⟨g,by rw[Bf],Q7 h.chg.size k,j⟩⟩;rw[An d ZM,i]at e;cases e
 .rw[An d ZM,An d ZM,AA f _ ZM,AA f _ ZM];exact h.sep
theorem dH.app8{y:Vl}(H:dL w4 X b sl sk vs kl)(h:dH w4 X b sl sk vs kl key v d f w)(s:d 19=false)(i:Chg w w' sk.ownBlock.toList)(u:AK w' y 9 (kl++[.string key]))(q:∀g,y.ownBlock=some g->sk.ownBlock=some g\/w.heap.size<=g):dH w4 X b sl sk vs kl key v (BA d 8) (Eb f 8 y) w':=by
 have j:∀g,g∈sk.ownBlock.toList->sk.ownBlock=some g:=fun g n=>by simpa using n
 refine⟨h.chg.trans (i.mono fun k _ a=> ?_),h.vals' trivial,h.cell.kept i (fun a=> ?_), ?_, ?_, ?_, ?_⟩
 .simp only[Qh,Qf];exact .inr (.inr a)
 .exact(H.nk _ (j _ a)).2.1 rfl
 .have r:=h.blk.kept i (fun a=>(H.nk _ (j _ a)).1 rfl)
  rw[An d ZM,An d ZM,s,AA f y (show(16:Nat)≠8 by decide)];rw[s]at r;simpa using r
 ·
  refine⟨(fun e=>by rw[BG]at e;cases e),fun _=> ?_,(fun _ e=>by rw[BG]at e;cases e)⟩;rw[Bf];exact⟨u,fun g n=>(q g n).imp id fun c=>Q7 h.chg.size c⟩
 .rw[An d ZM,An d ZM,AA f y ZM,AA f y ZM]
  exact h.items.kept i fun x t=>⟨(H.keys.lt (j x t)),(H.nk x (j x t)).2.2⟩
 .intro B o g c l
  rw[Bf]at c;rw[AA f y ZM]at l;rw[An d ZM]at o;obtain⟨z,A⟩:=h.items.2.1 o
  rcases q g c with m|m
  .rcases A g l with p|p
   .exact(H.nk g m).2.2 p
   .have:=H.keys.lt m;omega
  .have:=z.lt l;omega
theorem dH.app16{y:Vl}(H:dL w4 X b sl sk vs kl)(h:dH w4 X b sl sk vs kl key v d f w)(s:d 23=false)(i:Chg w w' sl.ownBlock.toList)(u:AK w' y 95 (vs++[v]))(q:∀g,y.ownBlock=some g->sl.ownBlock=some g\/w.heap.size<=g):dH w4 X b sl sk vs kl key v (BA d 16) (Eb f 16 y) w':=by
 have j:∀g,g∈sl.ownBlock.toList->sl.ownBlock=some g:=fun g m=>by simpa using m
 refine⟨h.chg.trans (i.mono fun k _ c=> ?_),h.vals' trivial,h.cell.kept i (fun c=> ?_), ?_, ?_, ?_, ?_⟩
 .simp only[Qh,Qf];exact .inr (.inl c)
 .exact(H.ni _ (j _ c)).2 rfl
 .have r:=h.blk.kept i (fun c=>(H.ni _ (j _ c)).1 rfl)
  rw[An d ZM,An d ZM,s,AA f y (show(8:Nat)≠16 by decide)];rw[s]at r;simpa using r
 .rw[An d ZM,An d ZM,AA f y ZM,AA f y ZM]
  exact h.keys.kept i fun x t=>⟨(H.items.lt (j x t)),fun e=>(H.nk x e).2.2 (j x t)⟩
 ·
  refine⟨(fun e=>by rw[BG]at e;cases e),fun _=> ?_,(fun _ e=>by rw[BG]at e;cases e)⟩;rw[Bf];exact⟨u,fun g m=>(q g m).imp id fun a=>Q7 h.chg.size a⟩
 .intro n B g a o
  rw[Bf]at o;rw[AA f y ZM]at a;rw[An d ZM]at n;obtain⟨z,A⟩:=h.keys.2.1 n
  rcases q g o with l|l
  .rcases A g a with p|p
   .exact(H.nk g p).2.2 l
   .have:=H.items.lt l;omega
  .have:=z.lt a;omega
theorem dH.store19(H:dL w4 X b sl sk vs kl)(h:dH w4 X b sl sk vs kl key v d f w):dH w4 X b sl sk vs kl key v (BA d 19) (Eb f 19 undef) (w.setCell ⟨b,1,none⟩ (f 8)):=by
 have c:Chg w (w.setCell ⟨b,1,none⟩ (f 8)) [b]:=(Chg.refl w [b]).setCell _ _ Zh;have i:=H.blk.lt;refine⟨h.chg.trans (c.mono fun k _ g=>by simp at g;subst g;simp),h.vals' trivial,h.cell.kept c (by simpa using H.ne), ?_, ?_, ?_, ?_⟩
 .rw[An d ZM,BG,Qr rfl,AA f _ ZM,AA f _ ZM]
  exact h.blk.set 1 _
 .rw[An d ZM,An d ZM,AA f _ ZM,AA f _ ZM]
  exact h.keys.kept c fun x a=>by simp at a;subst a;exact⟨i,fun e=>(H.nk _ e).1 rfl⟩
 .rw[An d ZM,An d ZM,AA f _ ZM,AA f _ ZM]
  exact h.items.kept c fun x a=>by simp at a;subst a;exact⟨i,fun e=>(H.ni _ e).1 rfl⟩
 .rw[An d ZM,An d ZM,AA f _ ZM,AA f _ ZM];exact h.sep
theorem dH.store23(H:dL w4 X b sl sk vs kl)(h:dH w4 X b sl sk vs kl key v d f w):dH w4 X b sl sk vs kl key v (BA d 23) (Eb f 23 undef) (w.setCell ⟨b,0,none⟩ (f 16)):=by
 have c:Chg w (w.setCell ⟨b,0,none⟩ (f 16)) [b]:=(Chg.refl w [b]).setCell _ _ Zh;have i:=H.blk.lt;refine⟨h.chg.trans (c.mono fun k _ g=>by simp at g;subst g;simp),h.vals' trivial,h.cell.kept c (by simpa using H.ne), ?_, ?_, ?_, ?_⟩
 .rw[BG,Qr rfl,An d ZM,AA f _ ZM,AA f _ ZM]
  exact h.blk.set 0 _
 .rw[An d ZM,An d ZM,AA f _ ZM,AA f _ ZM]
  exact h.keys.kept c fun x a=>by simp at a;subst a;exact⟨i,fun e=>(H.nk _ e).1 rfl⟩
 .rw[An d ZM,An d ZM,AA f _ ZM,AA f _ ZM]
  exact h.items.kept c fun x a=>by simp at a;subst a;exact⟨i,fun e=>(H.ni _ e).1 rfl⟩
 .rw[An d ZM,An d ZM,AA f _ ZM,AA f _ ZM];exact h.sep
end
def dK(X b:Nat)(c sk:Vl)(vs h:List Vl)(f:BY)(v:Vl)(w:Wl)(e:Ending)(w':Wl):Prop:=
 e= .returned (.tuple #[])/\∃d a,dL w' X b d a (vs++[v]) (h++[.string f])/\Chg w w' (b::(c.ownBlock.toList++sk.ownBlock.toList))/\(∀g,d.ownBlock=some g->c.ownBlock=some g\/w.heap.size<=g)/\(∀g,a.ownBlock=some g->sk.ownBlock=some g\/w.heap.size<=g)
theorem dN(X b:Nat)(u sk:Vl)(vs n:List Vl)(r:BY)(s:Ti)(x:Vl)(w:Wl)(H:dL w X b u sk vs n)(hn:(vs.length+1)*16<=140737488355328/\vs.length<=140737488355328)(Y:(n.length+1)*16<=140737488355328/\n.length<=140737488355328):
  Cl prog 88 #[.string r,.iface s x,.pointer (some ⟨X,0,none⟩)] w (dK X b u sk vs n r (.iface s x) w):=by
 obtain⟨R,C⟩:=Ue (World.drew w)
 have U:=hZ C;have D:Hid (Chg w R []):=by rw[C];exact hZ (Chg.refl w []).drew
 have j:Hid (dL R X b u sk vs n):=by rw[C];exact hZ ⟨H.cell.drew,H.blk.drew,H.items.kept (bs:=[]) (Chg.refl w []).drew Zh,H.keys.kept (bs:=[]) (Chg.refl w []).drew Zh,H.ne,H.ni,H.nk⟩
 have S:=hZ hn;have T:=hZ Y;clear H hn Y C;go_enter func88,ntmps88
 refine wp_region_any Yb ?_;change wpAny _ _ _ _ _ _ _ (World.drew _);rw[<-U.o];refine Dg _ (dH R X b u sk vs n r (.iface s x)) Yb ?_ ?_ _ ?_
 .intro ii op a wa k d p o i v c K f
  match ii,d with
  |0,d=>
   obtain rfl:=Q5 d;have G:a.tmps.getD 2 undef= .pointer (some ⟨X,0,none⟩):=p.at 2 Yb;have l:=c.cell.cell 0;simp only[Qa]at l;rw[Qr (by simp[Region.wanted])];go_simp
   exact f _ _ Zh (c.put ZM (by simp[dI]))
  |1,d=>
   obtain rfl:=Q5 d;have G:a.tmps.getD 2 undef= .pointer (some ⟨X,0,none⟩):=p.at 2 Yb;have l:=c.cell.cell 0;simp only[Qa]at l;rw[Qr (by simp[Region.wanted])];go_simp
   exact f _ _ Zh (c.put ZM (by simp[dI]))
  |2,d=>
   obtain rfl:=Q5 d;have G:a.tmps.getD 2 undef= .pointer (some ⟨X,0,none⟩):=p.at 2 Yb;have l:=c.cell.cell 0;simp only[Qa]at l;rw[Qr (by simp[Region.wanted])];go_simp
   exact f _ _ Zh (c.put ZM (by simp[dI]))
  |3,d=>
   obtain rfl:=Q5 d;have h7:a.tmps.getD 7 undef= .pointer (some ⟨b,0,none⟩):=c.vals 2 (i ⟨2,.data⟩ Zh rfl);rw[Qr (by simp[Region.wanted])];go_simp
   exact f _ _ Zh (c.put ZM (by simp[dI]))
  |4,d=>
   obtain rfl:=Q5 d;have h8:a.tmps.getD 8 undef= .pointer (some ⟨b,0,none⟩):=c.vals 3 (i ⟨3,.data⟩ Zh rfl);rw[Qr (by simp[Region.wanted])];go_simp
   exact f _ _ Zh (c.put ZM (by simp[dI]))
  |5,d=>
   obtain rfl:=Q5 d;have h9:a.tmps.getD 9 undef= .pointer (some ⟨b,1,none⟩):=c.vals 4 (i ⟨4,.data⟩ Zh rfl)
   have E:k 19=false:=by
    cases e:k 19 with
    |false=>rfl
    |true=>have:=v 19 _ rfl e ⟨5,.phase⟩ Zh rfl;rw[o]at this;cases this
   have l:=c.blk.cell 1;rw[E]at l;simp only[Qa,Qb]at l;rw[Qr (by simp[Region.wanted])];go_simp
   exact f _ _ Zh (c.put ZM (by simp[dI]))
  |6,d=>
   obtain rfl:=Q5 d;have h0:a.tmps.getD 0 undef= .string r:=p.at 0 Yb;rw[Qr (by simp[Region.wanted])];go_simp
   exact f _ _ Zh (c.put ZM (by simp[dI]))
  |7,d=>
   obtain rfl:=Q5 d;have af:a.tmps.getD 11 undef= .string r:=c.vals 6 (i ⟨6,.data⟩ Zh rfl)
   have B:k 8=false:=by
    cases e:k 8 with
    |false=>rfl
    |true=>have:=v 8 _ rfl e ⟨7,.data⟩ Zh rfl;rw[o]at this;cases this
   have ao:a.tmps[11]?.getD undef= .string r:=by simpa using af
   rw[Qr (by simp[Region.wanted])];go_simp
   exact f _ _ Zh (c.lit7 B ((Chg.refl _ _).alloc _) (Q8 _) (Ac.new _ _ _))
  |8,d=>
   obtain rfl:=Q5 d;have d7:=i ⟨7,.data⟩ Zh rfl;have ae:a.tmps.getD 10 undef=sk:=c.vals 5 (i ⟨5,.data⟩ Zh rfl);obtain⟨g,N,q2,O⟩:=c.keys.2.2 d7 o;have ag:a.tmps.getD 12 undef= .slice (some ⟨g,0,none⟩) 1 1:=N
   have E:k 19=false:=by
    cases e:k 19 with
    |false=>rfl
    |true=>have:=v 19 _ rfl e ⟨8,.data⟩ Zh rfl;rw[o]at this;cases this
   refine Df rfl _ _ _ rfl 9 Ho 16 underlying27 Cf rfl sk n ae (c.keys.1 o) g (.string r) ag (O.cell 0) rfl T.o.1 T.o.2 ?_;intro g2 aa w2 L I J;exact f _ _ Zh (c.app8 j.o E I L (fun x t=>by injection t with t;subst t;exact J.imp id (fun h=>Nat.le_of_eq h.symm)))
  |9,d=>
   obtain rfl:=Q5 d;have G:a.tmps.getD 2 undef= .pointer (some ⟨X,0,none⟩):=p.at 2 Yb;have l:=c.cell.cell 0;simp only[Qa]at l;rw[Qr (by simp[Region.wanted])];go_simp
   exact f _ _ Zh (c.put ZM (by simp[dI]))
  |10,d=>
   obtain rfl:=Q5 d;have aq:a.tmps.getD 14 undef= .pointer (some ⟨b,0,none⟩):=c.vals 9 (i ⟨9,.data⟩ Zh rfl);rw[Qr (by simp[Region.wanted])];go_simp
   exact f _ _ Zh (c.put ZM (by simp[dI]))
  |11,d=>
   obtain rfl:=Q5 d;have ar:a.tmps.getD 15 undef= .pointer (some ⟨b,0,none⟩):=c.vals 10 (i ⟨10,.data⟩ Zh rfl);rw[Qr (by simp[Region.wanted])];go_simp
   exact f _ _ Zh (c.put ZM (by simp[dI]))
  |12,d=>
   obtain rfl:=Q5 d;have au:a.tmps.getD 16 undef= .pointer (some ⟨b,0,none⟩):=c.vals 11 (i ⟨11,.data⟩ Zh rfl);rw[Qr (by simp[Region.wanted])];go_simp
   exact f _ _ Zh (c.put ZM (by simp[dI]))
  |13,d=>
   obtain rfl:=Q5 d;have av:a.tmps.getD 17 undef= .pointer (some ⟨b,0,none⟩):=c.vals 12 (i ⟨12,.data⟩ Zh rfl)
   have F:k 23=false:=by
    cases e:k 23 with
    |false=>rfl
    |true=>have:=v 23 _ rfl e ⟨13,.phase⟩ Zh rfl;rw[o]at this;cases this
   have l:=c.blk.cell 0;rw[F]at l;simp only[Qa]at l;rw[Qr (by simp[Region.wanted])];go_simp
   exact f _ _ Zh (c.put ZM (by simp[dI]))
  |14,d=>
   obtain rfl:=Q5 d;have h1:a.tmps.getD 1 undef= .iface s x:=p.at 1 Yb;rw[Qr (by simp[Region.wanted])];go_simp
   exact f _ _ Zh (c.put ZM (by simp[dI]))
  |15,d=>
   obtain rfl:=Q5 d;have ai:a.tmps.getD 19 undef= .iface s x:=c.vals 14 (i ⟨14,.data⟩ Zh rfl)
   have A:k 16=false:=by
    cases e:k 16 with
    |false=>rfl
    |true=>have:=v 16 _ rfl e ⟨15,.data⟩ Zh rfl;rw[o]at this;cases this
   have aw:a.tmps[19]?.getD undef= .iface s x:=by simpa using ai
   rw[Qr (by simp[Region.wanted])];go_simp
   exact f _ _ Zh (c.lit15 A ((Chg.refl _ _).alloc _) (Q8 _) (Ac.new _ _ _))
  |16,d=>
   obtain rfl:=Q5 d;have ab:=i ⟨15,.data⟩ Zh rfl;have ah:a.tmps.getD 18 undef=u:=c.vals 13 (i ⟨13,.data⟩ Zh rfl);obtain⟨g,N,q2,O⟩:=c.items.2.2 ab o;have aj:a.tmps.getD 20 undef= .slice (some ⟨g,0,none⟩) 1 1:=N
   have F:k 23=false:=by
    cases e:k 23 with
    |false=>rfl
    |true=>have:=v 23 _ rfl e ⟨16,.data⟩ Zh rfl;rw[o]at this;cases this
   refine Df rfl _ _ _ rfl 95 .nilIface 16 underlying105 Jh rfl u vs ah (c.items.1 o) g (.iface s x) aj (O.cell 0) rfl S.o.1 S.o.2 ?_;intro g2 aa w2 L I J;exact f _ _ Zh (c.app16 j.o F I L (fun x t=>by injection t with t;subst t;exact J.imp id (fun h=>Nat.le_of_eq h.symm)))
  |17,d=>
   obtain rfl:=Q5 d;have h5:a.tmps.getD 5 undef= .pointer (some ⟨b,0,none⟩):=c.vals 0 (i ⟨0,.data⟩ Zh rfl);rw[Qr (by simp[Region.wanted])];go_simp
   exact f _ _ Zh (c.put ZM (by simp[dI]))
  |18,d=>
   obtain rfl:=Q5 d;have ay:a.tmps.getD 22 undef= .pointer (some ⟨b,0,none⟩):=c.vals 17 (i ⟨17,.data⟩ Zh rfl);rw[Qr (by simp[Region.wanted])];go_simp
   exact f _ _ Zh (c.put ZM (by simp[dI]))
  |19,d=>
   obtain rfl:=Q5 d;have az:a.tmps.getD 23 undef= .pointer (some ⟨b,1,none⟩):=c.vals 18 (i ⟨18,.data⟩ Zh rfl);have am:=c.blk.lt;have ak:=c.blk.frozen 1;have z:=c.store19 j.o;have d8:=i ⟨8,.data⟩ Zh rfl;obtain⟨P,Q,q,_⟩:=(c.keys.2.1 d8).1.form;rw[show(n++[Vl.string r]).length=n.length+1 from by simp]at q;rw[q]at z;have ap:a.tmps.getD 13 undef= .slice P (n.length+1) Q:=q;have M:=c.blk.cell 1;simp only[Qa,Qb]at M;clear q;rw[Qr (by simp[Region.wanted])];go_simp
   exact f _ _ Zh z
  |20,d=>
   obtain rfl:=Q5 d;have h6:a.tmps.getD 6 undef= .pointer (some ⟨b,0,none⟩):=c.vals 1 (i ⟨1,.data⟩ Zh rfl);rw[Qr (by simp[Region.wanted])];go_simp
   exact f _ _ Zh (c.put ZM (by simp[dI]))
  |21,d=>
   obtain rfl:=Q5 d;have aA:a.tmps.getD 24 undef= .pointer (some ⟨b,0,none⟩):=c.vals 20 (i ⟨20,.data⟩ Zh rfl);rw[Qr (by simp[Region.wanted])];go_simp
   exact f _ _ Zh (c.put ZM (by simp[dI]))
  |22,d=>
   obtain rfl:=Q5 d;have aB:a.tmps.getD 25 undef= .pointer (some ⟨b,0,none⟩):=c.vals 21 (i ⟨21,.data⟩ Zh rfl);rw[Qr (by simp[Region.wanted])];go_simp
   exact f _ _ Zh (c.put ZM (by simp[dI]))
  |23,d=>
   obtain rfl:=Q5 d;have aC:a.tmps.getD 26 undef= .pointer (some ⟨b,0,none⟩):=c.vals 22 (i ⟨22,.data⟩ Zh rfl);have am:=c.blk.lt;have ak:=c.blk.frozen 0;have z:=c.store23 j.o;have ad:=i ⟨16,.data⟩ Zh rfl;obtain⟨P,Q,q,_⟩:=(c.items.2.1 ad).1.form;rw[show(vs++[Vl.iface s x]).length=vs.length+1 from by simp]at q;rw[q]at z;have ax:a.tmps.getD 21 undef= .slice P (vs.length+1) Q:=q;have M:=c.blk.cell 0;simp only[Qa]at M;clear q;rw[Qr (by simp[Region.wanted])];go_simp
   exact f _ _ Zh z
  |_+24,d=>exact absurd d Zh
 .intro a wR k p y c
  have an:dK X b u sk vs n r (.iface s x) w (.returned (.tuple #[])) wR:=by
   have B:=y 8 ZM;have A:=y 16 ZM;obtain⟨k1,k2⟩:=c.keys.2.1 B;obtain⟨i1,i2⟩:=c.items.2.1 A;have V:=c.blk;rw[y 23 ZM,y 19 ZM,Qr rfl,Qr rfl]at V;have lb:=j.o.blk.lt;have lx:=j.o.cell.lt
   have al:∀g,(bC _ a 16).ownBlock=some g->g≠b/\g≠X:=fun g m=>by
    rcases i2 g m with h|h
    .exact j.o.ni g h
    .constructor<;>omega
   have Z:∀g,(bC _ a 8).ownBlock=some g->g≠b/\g≠X:=fun g m=>by
    rcases k2 g m with h|h
    .exact⟨(j.o.nk g h).1,(j.o.nk g h).2.1⟩
    .constructor<;>omega
   exact⟨rfl,_,_,⟨c.cell,V,i1,k1,j.o.ne,al,fun g m=>⟨(Z g m).1,(Z g m).2,fun e=>c.sep B A g m e⟩⟩,(D.o.none _).trans c.chg,fun g m=>(i2 g m).imp id (fun h=>Q7 D.o.size h),fun g m=>(k2 g m).imp id (fun h=>Q7 D.o.size h)⟩
  clear c y U;have W:=p.defers;obtain⟨tm,df⟩:=a;clear p
  dsimp only at W
  subst W;go_wp2_with fail
  go_end0
  exact an
 .exact⟨Chg.refl _ _,(fun _ e=>by cases e),j.o.cell,j.o.blk,⟨fun _=>j.o.keys,(fun e=>by cases e),(fun e=>by cases e)⟩,⟨fun _=>j.o.items,(fun e=>by cases e),(fun e=>by cases e)⟩,(fun e=>by cases e)⟩
end
end Go.Proofs.YtkfnkppdhcaeoaaGreatDoor

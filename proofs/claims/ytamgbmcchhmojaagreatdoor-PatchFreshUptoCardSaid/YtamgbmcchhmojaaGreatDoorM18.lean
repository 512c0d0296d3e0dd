/- Part 18 of the proof of patchFresh_card. -/
import Derived.Test.YtamgbmcchhmojaaGreatDoorM17
set_option maxRecDepth 100000
set_option maxHeartbeats 32000000
set_option linter.all false
namespace Go.Proofs.YtamgbmcchhmojaaGreatDoor
open Go renaming Calls->Cl,TypeId->Ti,Value->Vl,World->Wl
open Go.Value renaming agg->nA,iface->nF,int->nI,pointer->nP,slice->nS,string->nG,tuple->nT
open Go.IntKind renaming i64->nX
open Go.Ending renaming returned->nR
open Go.Obj renaming cells->nC
open Option renaming none->nN,some->nM
section
open _root_.Go.Proofs.Tryz
open Go Go.Shelf Go.RowKit Go.Lib Tree Ptr
variable{p:Prop}
theorem ru(h:p:=by exact cg cR):p:=h
theorem ms(h:p:=by simp only;omega):p:=h
theorem le(h:p:=by simp;omega):p:=h
theorem g9(h:p:=by simp at f;simp[f]):p:=h
theorem Ty(W:Nat)(t x u:Tr)(v U vx:Vl)(bs X:List Nat)(F:Nat->Prop)(a:Option Addr)(c:Nat)(d:List BY)(s:BY)(w:Wl)(l:List Tr)(h:Sx W t x v U vx bs X F (nS a (d.length+1) c) (d++[s]) w)(O:Ah t d=nM (.list l))(al:Dy (.list l) s=nM u):
  Cl prog 103 #[nP (nM ⟨W,0,nN⟩),nS a (d.length+1) c,vx] w (Du W U (W::(X++bs)) t x (d++[s]) w):=by
 obtain⟨pi,S,T⟩:=Rd al;have aN:d++[s]≠[]:=Zh;have K:Ah t (d++[s])=nM u:=by rw[BW,O];exact al
 obtain⟨b,o,rfl,ai,av,aC,a9,ba,aK⟩:=h.tat.last;have lb:=h.tat.lt b ai;obtain⟨tx,xx,rfl⟩:=h.xat.iface;obtain⟨tv,xv,rfl⟩:=h.wat.at_.iface;obtain⟨vp,bp,rest,H⟩:=EU h.wat.at_ _ d _ rfl O;obtain⟨E,sv,vs,fs,rfl,C,M⟩:=H.at_.list;have aM:l.length<=65536:=by have:=(h.wat.fine.lead O).many;simp only[Ab]at this;omega
 have aO:pi<l.length:=Jf S;obtain⟨vu,bu,ad,aa,ar⟩:=C.at_.get T;obtain⟨_,_,_,_,aS,aV,r2,_,A,q6,q7,az⟩:=Fx H.at_ (s:=s) (by simp only[D6];exact S) T;have aA:=H.snoc az;obtain⟨tu,xu,rfl⟩:=aa.iface;have aE:=C.at_.length
 obtain⟨g,Y,rfl,a7⟩:∃g Y,sv= nS (nM ⟨g,0,nN⟩) vs.length Y/\vs.length<=Y:=by
  rcases C.lst.one with⟨_,e⟩|h
  .rw[e]at ad;simp at ad
  .exact h
 have a5:aS= nF tu xu:=by
  unfold Jn at A;injection A with _ A
  injection A with A
  injection A with A
  injection A with A
  subst A;have B:=C.blk.cell 0;simp only[Qa]at B;rw[q6]at B;injection B with B
  injection B with B
  injection B with B
  injection B with B
  subst B;have e7:=C.lst.cell rfl pi _ ad;rw[q7]at e7;injection e7
 subst a5;have Z:=h.wat.fine.lead K;have aP:=Ar h.xfine.fits;have am:=Ar h.wat.fine.fits;obtain⟨q1,q2,q3⟩:=J4 (x:=x) h.wat.fine K;have ab:=KC (x:=x) h.wat.fine K;have aF:KT w (nF tu xu) (Ag u).nodes (Ag u).bytes:= .inr ⟨u,bu,aa,Z.good,Z.fits,rfl,rfl⟩;have aB:(d++[s]).length=d.length+1:=Zh;rw[aB]at ab
 have Q:=UD (∀q,Chg w q []->Cl prog 129 #[nP (nM ⟨W,0,nN⟩),nS (nM ⟨b,o,nN⟩) (d.length+1) c,nF tx xx,nF tu xu,nI nX 0] q (Dh W (nF tv xv) U (Ag (AE t (d++[s]) x)).nodes (Ag (AE t (d++[s]) x)).bytes (d.length+1+(Ag x).depth) q)) fun q J=>
  Jl W _ U _ _ x _ _ X _ _ _ _ 0 _ _ c q (h.wat.blk.kept J) (h.xat.chg J Zh) h.xfine.good h.xfine.fits (aF.kept J) am.1 am.2.1 Zj aC q1 Zj
 have ag:=hZ (Dl h.laid h.wat h.tat aA)
 have au:∀y,y∈bu->y≠W/\y≠g:=fun y f=>by
  have a6:=ar y f;have aw:=List.nodup_iff_count.1 h.nodup y;have aD:=H.perm.count_eq y;rw[M]at aD;have z:=List.count_pos_iff.2 a6;simp only[List.count_cons,List.count_append,Vl.ownBlock,Option.toList_some,List.count_nil]at aw aD;constructor
  .intro e;subst e;simp at aw;omega
  .intro e;subst e;simp at aw aD;omega
 have ak:∀y,y∈bp->y∈bs:=fun y f=>H.perm.mem_iff.2 (Qe _ f);have aL:g∈bs:=ak g (by rw[M];simp[Vl.ownBlock])
 have aj:W∉bp:=fun k=>by
  have:=ak W k;have hn:=h.nodup;simp[this]at hn
 have N:∀y,y∈[W,g]->y∈W::(X++bs):=fun y f=>by simp at f;rcases f with rfl|rfl;simp;simp[aL]
 have ao:=UD (∀q,Chg w q [W,g]->Cl prog 130 #[nI nX 3,nS (nM ⟨b,o,nN⟩) (d.length+1) c,nF tu xu] q (Et (AC 3 (d++[s]) (Ai u)) q)) fun q J=>by
  have ht:=h.tat.kept J (fun y f=>h.apart y (N y f));exact DE 3 F _ (d++[s]) u _ bu q (h.laid.kept J (fun y f=>h.big y (N y f))) ht.row ht.lt ht.ok ht.small Z (aa.chg J (fun y f k=>by simp at f;have:=au y k;omega))
 have c1:w.cell? ⟨E,0,nN⟩=nM (nS (nM ⟨g,0,nN⟩) vs.length Y):=C.blk.cell 0
 have aq:(fun p=>Bz (fun _=>x) p [s]) (.list l)= .list (l.set pi x):=by
  show Bz (fun _=>x) (.list l) [s]=_
  rw[BF (by simp only[D6];exact S:D6 (.list l) s=nM pi) T];rfl
 have ap:=UD (∀n,Chg w n [W]->∃ah,AP (n.setCell ⟨g,pi,nN⟩ (nF tx xx)) (Bz (fun p=>Bz (fun _=>x) p [s]) t d) (nF tv xv) ah/\DJ n (W::(X++bs)) (W::ah)/\(∃v0,n.cell? ⟨g,pi,nN⟩=nM v0)/\(∀j,n.frozen? ⟨g,j,nN⟩=false)/\g∈bs/\g∉rest) fun n R=>
  XK h.wat H C M h.nodup h.xat T aq R
 have HH:=hZ h;have aJ:E≠W:=fun e=>aj (by rw[M,<-e];simp);have aZ:g≠W:=fun e=>aj (by rw[M,<-e];simp[Vl.ownBlock]);have lW:=h.wat.blk.lt;have lg:=C.lst.lt (g:=g) rfl;have aR:=C.blk.lt;have a8:pi<vs.length:=Zj
 have an:=UD (∀n,Ac n W [nF tv xv,nI nX (Ag (AE t (d++[s]) x)).nodes,nI nX (Ag (AE t (d++[s]) x)).bytes,U] 69->Chg w n [W]->Cl prog 135 #[nP (nM ⟨W,0,nN⟩),nS (nM ⟨b,o,nN⟩) d.length c] n (fun e w'=>e= nR (nT #[Jn E,.bool true])/\Chg n w' [])) fun n D R=>by
  have hi:=h.tat.init.kept R (fun y f=>h.apart y (N y g9));have a3:AP n t (nF tv xv) bs:=h.wat.at_.chg R (fun y f k=>by simp at f;subst f;have hn:=h.nodup;simp[k]at hn);have a4:Ca bs w n:=R.sameB (AP.lt _ _ _ h.wat.at_) (fun y f k=>by simp at k;subst k;have hn:=h.nodup;simp[f]at hn);have:=LJ W t _ _ _ U bs F _ d n (h.laid.kept R (fun y f=>h.big y (N y g9))) D a3 h.wat.fine hi.row hi.ok hi.small Zj;rw[Iv O]at this;refine this.mono fun e w' ⟨z,aS,aV,bd,h2,h3⟩=>⟨?_,z⟩;rw[h2,(Dv.same d t _ _ bs h.wat.at_ a4 H.reach).inj h3.reach]
 have aI:=UD (∀q,Chg w q [W]->Cl prog 138 #[nG s,nI nX vs.length] q (fun e w'=>e= nR (nT #[nI nX pi,.bool true])/\Chg q w' [])) fun q J=>by
  have:=Gl s l.length q (h.laid.kept J (fun y f=>h.big y (N y g9))) Zj Zj;unfold Je at this;rw[S]at this;rw[aE];exact this
 have aX:b≠W:=fun e=>h.apart W Zh (by rw[<-e];exact ai);have a0:∀(w:Wl),(Instr.typeAssert (nF 71 (nP (nM ⟨E,0,nN⟩))) 66 123 true).run prog w= .ok (nT #[nP nN,.bool false]) w:=fun _=>Yb;have a1:∀(w:Wl),(Instr.typeAssert (nF 71 (nP (nM ⟨E,0,nN⟩))) 66 71 true).run prog w= .ok (nT #[nP (nM ⟨E,0,nN⟩),.bool true]) w:=fun _=>Yb;have ax:Bz (fun p=>Bz (fun _=>x) p [s]) t d=AE t (d++[s]) x:=by unfold AE;rw[Gh]
 rw[ax]at ap;have ay:(Ag (AE t (d++[s]) x)).within=true->Bt (AE t (d++[s]) x):=fun I=>h.wat.fine.set h.xfine K I;by_cases I:(Ag (AE t (d++[s]) x)).within=true
 .rw[Pr K I];rw[En (by rw[ab];exact I)]at Q;have aU:=hZ (ay I);obtain⟨m,k⟩:=Ue d.length;rw[<-k]at ag Q ao an av aC aK|-;clear h aN K H C S T ad aa Z aP am q1 q2 q3 ab aF aB k I M ar au aE aO ay ai O al aM aq az aA ak aj N ax A q6 q7;go_enter func103,ntmps103
  go_wp2_with(first
   |(go_at_call 105;refine(ag.o _ ru).mono ?_;rintro e w1 ⟨rfl,z⟩;have V:=UD (Chg w w1 []) (ct cR z);have B1:=UD (Ac w1 w.heap.size Ef 44) ((Ac.new w Ef 44).kept z);clear z)
   |(go_at_call 129;refine(Q.o _ (by exact cg V.o)).mono ?_;rintro e n ⟨rfl,h3,r⟩;have aH:=hZ h3;have L:=UD (Chg w n [W]) (ct ((V.o.none [W])) r);have B3:=UD (Ac n w.heap.size Ef 44) (B1.o.kept r le);have e0:=(L.o.cell (p:=⟨b,o+m,nN⟩) lb (by simpa using aX)).trans av;have bb:=Q6 lb L.o.size;clear h3 r)
   |(go_at_call 135;refine(an.o n aH.o L.o).mono ?_;unfold Jn;rintro e w4 ⟨rfl,r⟩;have aG:=hZ r;have H4:=UD (Chg w w4 [W]) (L.o.trans (r.none _));have e1:=aG.o.keeps e0;have d4:=(H4.o.cell (p:=⟨E,0,nN⟩) aR (by simpa using aJ)).trans c1;clear r))
  have i0:(0:Int)<=(m:Int):=Zj;have i1:(m:Int)<(m:Int)+1:=Zj;have i2:(m:Int)<((m+1:Nat):Int):=Zj
  go_region_held3(fun w'=>w'.cell? ⟨b,o+m,nN⟩=nM (nG s)/\w'.cell? ⟨E,0,nN⟩=nM (nS (nM ⟨g,0,nN⟩) vs.length Y)) (first|exact⟨e1,d4⟩|exact⟨e5,d1⟩)
   (first|(go_at_call 138;refine(aI.o _ (by exact cg H4.o)).mono ?_;rintro e w5 ⟨rfl,r⟩;have ae:=UD (Chg n w5 []) (aG.o.trans (ct cR r));have P:=UD (Chg w w5 [W]) (L.o.trans (ae.o.none _));have B5:=UD (Ac w5 w.heap.size Ef 44) (B3.o.kept ae.o);have d1:=(P.o.cell (p:=⟨E,0,nN⟩) aR (by simpa using aJ)).trans c1;have e5:=ae.o.keeps e0;obtain⟨ah,s1,s2,⟨v0,s3⟩,s4,_⟩:=ap.o w5 P.o;have S1:=hZ s1;have S2:=hZ s2;have bc:=Q6 lg P.o.size;clear r s1 s2))
  go_wp2_with(first
   |(go_at_call 130;refine(ao.o _ (by exact(P.o.mono (fun _ _ k=>by simp at k;simp[k])).setCell _ _ Zh)).mono ?_;rintro e w6 h5;obtain⟨sv,ys,G,rfl,k1,k2⟩:=h5.at;have K1:=hZ k1;have K2:=hZ k2;obtain⟨sa,sc,rfl,_⟩:=k1.row.form;clear h5 k1 k2)
   |(refine uO (ds:=(BJ (AC 3 (d++[s]) (Ai u)) (nS sa (AC 3 (d++[s]) (Ai u)).steps.length sc))) ((B5.o.set_other _ _ ms).kept K2.o) (Dx _ _ _ _) ?_;intro w7 aT af))
  have aQ:=P.o.size;have aY:Chg w w6 [W,g]:=Chg.trans (b:=_) ((P.o.mono (fun _ _ k=>by simp at k;simp[k])).setCell _ _ Zh) (K2.o.none _);have aW:Chg w w7 [W,g]:=aY.step af.o (fun i hi O=>by simp at hi;omega);have hk:=K1.o.kept (w0:=w) af.o (fun b D=>by simp at D;subst D;simpa using B5.o.lt) (by simpa using aQ);have a2:=AP.lt _ _ _ S1.o;refine bodyPost_ret (uP aT.o) rfl ?_;refine⟨nF tv xv,ah,_,ys,G,rfl,hk,⟨?_, ?_,aU.o⟩,S2.o.back aQ,aW.mono (fun _ _ k=> ?_),fun b D hG=> ?_⟩
  .exact(((aH.o.kept ae.o).set_other _ _ (by simp only;exact aZ)).kept K2.o).kept af.o le
  .exact(S1.o.chg K2.o Zh).chg af.o (fun b D k=>by
    simp at D;subst D;rcases S2.o.come _ (Qg _ k)with h|h
    .rcases Qh.1 h with h|h
     .omega
     .rcases Qf.1 h with h|h
      .have:=AP.lt _ _ _ HH.o.xat _ h;omega
      .have:=AP.lt _ _ _ HH.o.wat.at_ _ h;omega
    .have:=B5.o.lt;omega)
  .simp at k;rcases k with rfl|rfl
   .simp
   .simp[aL]
  .have z:=(K1.o.new b hG).1;have h2:w5.heap.size<=b:=by simpa using z
   rcases Qh.1 D with rfl|D
   .omega
   .have:=a2 b D;simp at this;omega
 .rw[J0 K (by simpa using I)];rw[DO (by rw[ab];simpa using I)]at Q;obtain⟨m,k⟩:=Ue d.length;rw[<-k]at ag Q av aC aK|-;clear h aN K H C S T ad aa Z aP am q1 q2 q3 ab aF aB k I M ar au aE aO ay ai O al aM aq az aA ak aj N ax A q6 q7 ao an ap aI;go_enter func103,ntmps103
  go_wp2_with(first
   |(go_at_call 105;refine(ag.o _ ru).mono ?_;rintro e w1 ⟨rfl,z⟩;have V:=UD (Chg w w1 []) (ct cR z);have B1:=UD (Ac w1 w.heap.size Ef 44) ((Ac.new w Ef 44).kept z);clear z)
   |(go_at_call 129;refine(Q.o _ (by exact cg V.o)).mono ?_;rintro e n ⟨he,r⟩;unfold By at he;subst he;have L:=UD (Chg w n []) (ct V.o r);clear r))
  exact⟨rfl,rfl,L.o.none _⟩
theorem ae(W:Nat)(t x:Tr)(v e f:Vl)(bs g:List Nat)(F:Nat->Prop)(a:Option Addr)(c:Nat)(ts:List BY)(w:Wl)(h:Sx W t x v e f bs g F (nS a ts.length c) ts w):
  Cl prog 103 #[nP (nM ⟨W,0,nN⟩),nS a ts.length c,f] w (Du W e (W::(g++bs)) t x ts w):=by
 cases b:Ah t ts with
 |none=>
  rw[RP b];exact Tz W t v e f bs F a _ c ts w _ h.laid h.wat h.tat b h.xat.iface
 |some u=>
  by_cases j:ts=[]
  .subst j;exact TA W t x v e f bs g F a c w h
  .obtain⟨d,s,rfl⟩:∃d s,ts=d++[s]:=⟨ts.dropLast,ts.getLast j,(List.dropLast_concat_getLast j).symm⟩;have m:(d++[s]).length=d.length+1:=Zh;rw[m]at h|-;rw[BW]at b;cases i:Ah t d with
   |none=>rw[i]at b;simp at b
   |some p=>
    rw[i]at b;simp only[Option.bind_some]at b;by_cases k:AX p=true
    .rw[Md k]at b;cases b
    .cases p with
     |list l=>exact Ty W t x u v e f bs g F a c d s w l h i b
     |obj ks l=>exact bG W t x u v e f bs g F a c d s w ks l h i b
     |_=>simp[AX]at k
end
section
open Go Go.Shelf Go.RowKit Go.Lib Tree Ptr
def Ed(a i:Nat)(sv sk:Vl)(j:Nat)(v:Vl):Prop:=
 match j with
 |0=>v= nP (nM ⟨a,0,nN⟩)
 |1=>v= nP (nM ⟨a,0,nN⟩)
 |2=>v= nP (nM ⟨a,0,nN⟩)
 |3=>v= nP (nM ⟨a,0,nN⟩)
 |10=>v= nP (nM ⟨a,0,nN⟩)
 |11=>v= nP (nM ⟨a,0,nN⟩)
 |12=>v= nP (nM ⟨a,0,nN⟩)
 |13=>v= nP (nM ⟨a,0,nN⟩)
 |19=>v= nP (nM ⟨a,0,nN⟩)
 |22=>v= nP (nM ⟨a,0,nN⟩)
 |23=>v= nP (nM ⟨a,0,nN⟩)
 |24=>v= nP (nM ⟨a,0,nN⟩)
 |4=>v= nP (nM ⟨a,1,nN⟩)
 |20=>v= nP (nM ⟨a,1,nN⟩)
 |5=>v=sk
 |14=>v=sv
 |6=>v= nI nX i
 |7=>v= nI nX i
 |15=>v= nI nX i
 |16=>v= nI nX i
 |8=>v= nI nX (i+1)
 |17=>v= nI nX (i+1)
 |_=>True
structure OQ(w0:Wl)(b' i nk nv:Nat)(sv sk:Vl)(ks ks':List BY)(vs vs':List Vl)(d:Nat->Bool)(f:Nat->Vl)(w:Wl):Prop where
 chg:Chg w0 w (b'::(sk.ownBlock.toList++sv.ownBlock.toList))
 vals:∀j,d j=true->Ed b' i sv sk j (f j)
 o9:d 9=true->d 5=true
 o18:d 18=true->d 9=true/\d 14=true
 o21:d 21=true->d 18=true
 o25:d 25=true->d 21=true
 blk0:d 21=false->Ac w b' [sv,sk] 125
 blk1:d 21=true->d 25=false->Ac w b' [sv,f 9] 125
 blk2:d 25=true->Ac w b' [f 18,f 9] 125
 keys0:d 9=false->AK w sk 9 (Ad ks)
 items0:d 18=false->AK w sv 66 vs
 r9:d 9=true->∃g cap,f 9= nS (nM ⟨g,0,nN⟩) nk cap/\AK w (nS (nM ⟨g,0,nN⟩) nk cap) 9 (Ad ks')/\sk.ownBlock=nM g
 r18:d 18=true->∃g cap,f 18= nS (nM ⟨g,0,nN⟩) nv cap/\AK w (nS (nM ⟨g,0,nN⟩) nv cap) 66 vs'/\sv.ownBlock=nM g
section
variable{cap g j:Nat}{p:Prop}{v:Vl}
variable {w0:Wl} {b' i nk nv:Nat} {sv sk:Vl} {ks ks':List BY} {vs vs':List Vl} {d:Nat->Bool} {f:Nat->Vl} {w w':Wl}
theorem OQ.vals'(h:OQ w0 b' i nk nv sv sk ks ks' vs vs' d f w)(b:Ed b' i sv sk j v):∀k,BA d j k=true->Ed b' i sv sk k (Eb f j v k):=fun k a=>by
 by_cases e:k=j
 .subst e;rw[Bf];exact b
 .rw[AA f v e];rw[An d e]at a;exact h.vals k a
theorem OQ.plain(h:OQ w0 b' i nk nv sv sk ks ks' vs vs' d f w)(o:9≠j)(n:18≠j)(s:21≠j)(t:25≠j)(r:Ed b' i sv sk j v)(a:Chg w w' []):OQ w0 b' i nk nv sv sk ks ks' vs vs' (BA d j) (Eb f j v) w':=by
 have up:∀k,d k=true->BA d j k=true:=fun k q=>by unfold BA;split;rfl;exact q
 refine⟨h.chg.trans (a.none _),h.vals' r, ?_, ?_, ?_, ?_, ?_, ?_, ?_, ?_, ?_, ?_, ?_⟩<;>simp only[An d o,An d n,An d s,An d t,AA f v o,AA f v n]
 .exact fun e=>up 5 (h.o9 e)
 .exact fun e=>⟨(h.o18 e).1,up 14 (h.o18 e).2⟩
 .exact h.o21
 .exact h.o25
 .exact fun e=>(h.blk0 e).kept a
 .exact fun e p=>(h.blk1 e p).kept a
 .exact fun e=>(h.blk2 e).kept a
 .exact fun e=>(h.keys0 e).kept a
 .exact fun e=>(h.items0 e).kept a
 .exact fun e=>by obtain⟨g,c,b,l,m⟩:=h.r9 e;exact⟨g,c,b,l.kept a,m⟩
 .exact fun e=>by obtain⟨g,c,b,l,m⟩:=h.r18 e;exact⟨g,c,b,l.kept a,m⟩
theorem hE(h:p:=by simpa using a):p:=h
theorem OQ.call9(p:Nh w0 b' sv sk)(h:OQ w0 b' i nk nv sv sk ks ks' vs vs' d f w)(o:d 9=false)(r:d 5=true)(u:AK w' (nS (nM ⟨g,0,nN⟩) nk cap) 9 (Ad ks'))(j:Chg w w' sk.ownBlock.toList)(v:sk.ownBlock=nM g):
  OQ w0 b' i nk nv sv sk ks ks' vs vs' (BA d 9) (Eb f 9 (nS (nM ⟨g,0,nN⟩) nk cap)) w':=by
 have n:∀k,k≠9->BA d 9 k=d k:=fun k l=>An d l;have m:∀k,k≠9->Eb f 9 (nS (nM ⟨g,0,nN⟩) nk cap) k=f k:=fun k l=>AA f _ l
 have b:d 18=false:=by cases e:d 18 with
  |false=>rfl
  |true=>rw[(h.o18 e).1]at o;cases o
 have c:d 21=false:=by cases e:d 21 with
  |false=>rfl
  |true=>rw[h.o21 e]at b;cases b
 have q:d 25=false:=by cases e:d 25 with
  |false=>rfl
  |true=>rw[h.o25 e]at c;cases c
 have s:b'∉sk.ownBlock.toList:=fun a=>(p.lk b' hE).2.1 rfl;refine⟨h.chg.trans (j.mono fun _ _ a=>Qg _ (Qe _ a)),h.vals' (by simp[Ed]), ?_, ?_, ?_, ?_, ?_, ?_, ?_, ?_, ?_, ?_, ?_⟩<;>simp only[n 5 ZM,n 14 ZM,n 18 ZM,n 21 ZM,n 25 ZM,m 18 ZM,BG,Bf]
 .exact fun _=>r
 .rw[b];intro e;cases e
 .exact h.o21
 .exact h.o25
 .exact fun e=>(h.blk0 e).kept j s
 .rw[c];intro e;cases e
 .rw[q];intro e;cases e
 .intro e;cases e
 .exact fun e=>(h.items0 e).kept j (fun y t a=>(p.lk y hE).2.2 t)
 .exact fun _=>⟨g,cap,rfl,u,v⟩
 .rw[b];intro e;cases e
theorem OQ.call18(p:Nh w0 b' sv sk)(h:OQ w0 b' i nk nv sv sk ks ks' vs vs' d f w)(o:d 18=false)(c:d 9=true)(u:d 14=true)(z:AK w' (nS (nM ⟨g,0,nN⟩) nv cap) 66 vs')(j:Chg w w' sv.ownBlock.toList)(A:sv.ownBlock=nM g):
  OQ w0 b' i nk nv sv sk ks ks' vs vs' (BA d 18) (Eb f 18 (nS (nM ⟨g,0,nN⟩) nv cap)) w':=by
 have n:∀k,k≠18->BA d 18 k=d k:=fun k l=>An d l;have m:∀k,k≠18->Eb f 18 (nS (nM ⟨g,0,nN⟩) nv cap) k=f k:=fun k l=>AA f _ l
 have b:d 21=false:=by cases e:d 21 with
  |false=>rfl
  |true=>rw[h.o21 e]at o;cases o
 have t:d 25=false:=by cases e:d 25 with
  |false=>rfl
  |true=>rw[h.o25 e]at b;cases b
 have v:b'∉sv.ownBlock.toList:=fun a=>(p.lv b' hE).2 rfl;obtain⟨gk,s,B,C,r⟩:=h.r9 c;have x:gk∉sv.ownBlock.toList:=fun a=>(p.lk gk r).2.2 hE;refine⟨h.chg.trans (j.mono fun _ _ a=>Qg _ (Qd _ a)),h.vals' (by simp[Ed]), ?_, ?_, ?_, ?_, ?_, ?_, ?_, ?_, ?_, ?_, ?_⟩<;>simp only[n 5 ZM,n 9 ZM,n 14 ZM,n 21 ZM,n 25 ZM,m 9 ZM,BG,Bf]
 .exact h.o9
 .exact fun _=>⟨c,u⟩
 .exact fun _=>trivial
 .exact h.o25
 .exact fun e=>(h.blk0 e).kept j v
 .rw[b];intro e;cases e
 .rw[t];intro e;cases e
 .rw[c];intro e;cases e
 .intro e;cases e
 .exact fun _=>⟨gk,s,B,C.kept j (fun y q a=>by simp[Vl.ownBlock]at q;subst q;exact x a),r⟩
 .exact fun _=>⟨g,cap,rfl,z,A⟩
theorem lP(h:p:=by exact fun _=>⟨gk,t,A,B.kept j (fun y o a=>by simp[Vl.ownBlock]at o a;omega),s⟩):p:=h
theorem ix(h:p:=by exact fun _=>⟨c,u,x,z.kept j (fun y o a=>by simp[Vl.ownBlock]at o a;omega),r⟩):p:=h
theorem OQ.store21(h:OQ w0 b' i nk nv sv sk ks ks' vs vs' d f w)(q:Nh w0 b' sv sk)(g:d 21=false)(b:d 18=true):OQ w0 b' i nk nv sv sk ks ks' vs vs' (BA d 21) (Eb f 21 undef) (w.setCell ⟨b',1,nN⟩ (f 9)):=by
 have n:∀k,k≠21->BA d 21 k=d k:=fun k l=>An d l;have m:∀k,k≠21->Eb f 21 undef k=f k:=fun k l=>AA f _ l
 have v:d 25=false:=by cases e:d 25 with
  |false=>rfl
  |true=>rw[h.o25 e]at g;cases g
 have p:=(h.o18 b).1;have j:Chg w (w.setCell ⟨b',1,nN⟩ (f 9)) [b']:=(Chg.refl w [b']).setCell _ _ Zh;obtain⟨gk,t,A,B,s⟩:=h.r9 p;obtain⟨c,u,x,z,r⟩:=h.r18 b;have C:gk≠b':=(q.lk gk s).2.1;have D:c≠b':=(q.lv c r).2;refine⟨h.chg.trans (j.mono fun _ _ a=>by simp at a;simp[a]),h.vals' (by simp[Ed]), ?_, ?_, ?_, ?_, ?_, ?_, ?_, ?_, ?_, ?_, ?_⟩<;>simp only[n 5 ZM,n 9 ZM,n 14 ZM,n 18 ZM,n 25 ZM,m 9 ZM,m 18 ZM,BG]
 .exact h.o9
 .exact h.o18
 .exact fun _=>b
 .exact fun _=>trivial
 .intro e;cases e
 .exact fun _ _=>(h.blk0 g).set 1 (f 9)
 .rw[v];intro e;cases e
 .rw[p];intro e;cases e
 .rw[b];intro e;cases e
 .exact lP
 .exact ix
theorem OQ.store25(h:OQ w0 b' i nk nv sv sk ks ks' vs vs' d f w)(q:Nh w0 b' sv sk)(v:d 25=false)(b:d 21=true):OQ w0 b' i nk nv sv sk ks ks' vs vs' (BA d 25) (Eb f 25 undef) (w.setCell ⟨b',0,nN⟩ (f 18)):=by
 have n:∀k,k≠25->BA d 25 k=d k:=fun k l=>An d l;have m:∀k,k≠25->Eb f 25 undef k=f k:=fun k l=>AA f _ l;have g:=h.o21 b;have p:=(h.o18 g).1;have j:Chg w (w.setCell ⟨b',0,nN⟩ (f 18)) [b']:=(Chg.refl w [b']).setCell _ _ Zh;obtain⟨gk,t,A,B,s⟩:=h.r9 p;obtain⟨c,u,x,z,r⟩:=h.r18 g;have C:gk≠b':=(q.lk gk s).2.1;have D:c≠b':=(q.lv c r).2;refine⟨h.chg.trans (j.mono fun _ _ a=>by simp at a;simp[a]),h.vals' (by simp[Ed]), ?_, ?_, ?_, ?_, ?_, ?_, ?_, ?_, ?_, ?_, ?_⟩<;>simp only[n 5 ZM,n 9 ZM,n 14 ZM,n 18 ZM,n 21 ZM,m 9 ZM,m 18 ZM,BG]
 .exact h.o9
 .exact h.o18
 .exact h.o21
 .exact fun _=>b
 .rw[b];intro e;cases e
 .intro _ e;cases e
 .exact fun _=>(h.blk1 b v).set 0 (f 18)
 .rw[p];intro e;cases e
 .rw[g];intro e;cases e
 .exact lP
 .exact ix
end
variable{s:BY}{bs rest:List Nat}{l:List Tr}{vs:List Vl}{W c d pi:Nat}{t u:Tr}{uv v:Vl}{w:Wl}
theorem Ih{w:Wl}:∀{l:List Tr} {vs:List Vl} {bs:List Nat},PsAt w l vs bs->∀u∈vs,∃t x,u= nF t x
 |[],_,_,h,u,a=>by simp only[PsAt]at h;obtain⟨rfl,_⟩:=h;cases a
 |t::l,_,_,h,u,a=>by
  simp only[PsAt]at h;obtain⟨v,r,d,e,rfl,b,c,_⟩:=h;rcases Qh.1 a with rfl|a
  .exact b.iface
  .exact Ih c u a
def OP(w b:Wl)(W:Nat)(e u:Tr)(v f:Vl)(bs cs:List Nat):Prop:=
 ∃d c,AP b u f d/\AP b e v c/\(∀a,(W::(d++c)).count a<=(W::bs).count a)/\Chg w b cs/\(∀y,y∈cs->y∈bs)/\W∉cs
theorem Wo{i:Wl}{g n:Nat}{E:Vl}{p:List Nat}{D:List BY}{e:List Nat}(P:Hu w W t v uv bs)(r:Ir w t v bs D (.list l) (Jn d) p rest)(M:Sy w l d (nS (nM ⟨g,0,nN⟩) vs.length c) vs e)(Q:p=d::((Vl.slice (nM ⟨g,0,nN⟩) vs.length c).ownBlock.toList++e))(z:(W::bs).Nodup)(V:l[pi]? =nM u)(X:vs[pi]? =nM E)(hcut:CT s (.list l)= .list (l.eraseIdx pi))(k:Chg w i [d,g])(N:Ac i d [nS (nM ⟨g,0,nN⟩) n c] 74)(O:AK i (nS (nM ⟨g,0,nN⟩) n c) 66 (vs.eraseIdx pi)):
  OP w i W (Bz (CT s) t D) u v E bs [d,g]:=by
 have R:=List.nodup_iff_count.1 z;have C:=r.perm;subst Q;have B:=fun a=>C.count_eq a;have x:=AP.lt _ _ _ P.at_;have o:∀y,y∈(d::((Vl.slice (nM ⟨g,0,nN⟩) vs.length c).ownBlock.toList++e))++rest->y∈bs:=fun y b=>C.mem_iff.2 b;have A:∀y,y∈[d,g]->y∈bs:=fun y b=>o y (by simp only[Qh,List.not_mem_nil,or_false]at b;rcases b with h|h<;>subst h<;>simp[Vl.ownBlock])
 have T:([d,g]++(e++rest)).Nodup:=by
  rw[List.nodup_iff_count];intro a;have f:=R a;have j:=B a;simp only[List.count_cons,List.count_append,Vl.ownBlock,Option.toList_some,List.count_nil]at f j|-;omega
 have q:∀y,y∈e++rest->y∉[d,g]:=fun y b m=>Cd T m b;have S:Ca e w i:=k.sameB (fun y b=>x y (o y (by simp only[Qh,Qf];exact .inl (.inr (.inr b))))) (fun y b=>q y (Qe _ b));have U:Ca rest w i:=k.sameB (fun y b=>x y (o y (Qd _ b))) (fun y b=>q y (Qd _ b));obtain⟨ab,J,aa,f,j,K,L⟩:=M.erase V N O S;rw[X]at f;injection f with f
 subst f;obtain⟨I,Y,Z⟩:=r.back (CT s) _ _ (by rw[hcut];exact K.pat) U;refine⟨J,I,j,Y,fun a=> ?_,k,A,fun m=> ?_⟩
 .have F:=Z.count_eq a;have G:=B a;have H:=L.count_eq a;simp only[List.count_cons,List.count_append,Vl.ownBlock,Option.toList_some,List.count_nil]at F G H|-;omega
 .exact(List.nodup_cons.1 z).1 (A W m)
theorem Wp{e:Wl}{j I gk i H x r:Nat}{J:Vl}{q:List Nat}{G:List BY}{ks:List BY}{f:List Nat}{m:Nat}(V:Hu w W t v uv bs)(A:Ir w t v bs G (.obj ks l) (IR c) q rest)(R:PS w ks l c (nS (nM ⟨d,0,nN⟩) vs.length j) (nS (nM ⟨gk,0,nN⟩) m i) vs f)(X:q=c::((Vl.slice (nM ⟨d,0,nN⟩) vs.length j).ownBlock.toList++((Vl.slice (nM ⟨gk,0,nN⟩) m i).ownBlock.toList++f)))(C:(W::bs).Nodup)(hu:l[pi]? =nM u)(ad:vs[pi]? =nM J)(hcut:CT s (.obj ks l)= .obj (ks.eraseIdx pi) (l.eraseIdx pi))(n:Chg w e [c,gk,d])(S:Ac e c [nS (nM ⟨d,0,nN⟩) I x,nS (nM ⟨gk,0,nN⟩) H r] 125)(U:AK e (nS (nM ⟨d,0,nN⟩) I x) 66 (vs.eraseIdx pi))(T:AK e (nS (nM ⟨gk,0,nN⟩) H r) 9 (Ad (ks.eraseIdx pi))):
  OP w e W (Bz (CT s) t G) u v J bs [c,gk,d]:=by
 have Y:=List.nodup_iff_count.1 C;have F:=A.perm;subst X;have E:=fun a=>F.count_eq a;have B:=AP.lt _ _ _ V.at_;have p:∀y,y∈(c::((Vl.slice (nM ⟨d,0,nN⟩) vs.length j).ownBlock.toList++((Vl.slice (nM ⟨gk,0,nN⟩) m i).ownBlock.toList++f)))++rest->y∈bs:=fun y b=>F.mem_iff.2 b;have D:∀y,y∈[c,gk,d]->y∈bs:=fun y b=>p y (by simp only[Qh,List.not_mem_nil,or_false]at b;rcases b with h|h|h<;>subst h<;>simp[Vl.ownBlock])
 have aa:([c,gk,d]++(f++rest)).Nodup:=by
  rw[List.nodup_iff_count];intro a;have g:=Y a;have k:=E a;simp only[List.count_cons,List.count_append,Vl.ownBlock,Option.toList_some,List.count_nil]at g k|-;omega
 have z:∀y,y∈f++rest->y∉[c,gk,d]:=fun y b o=>Cd aa o b;have Z:Ca f w e:=n.sameB (fun y b=>B y (p y (by simp only[Qh,Qf];exact .inl (.inr (.inr (.inr b)))))) (fun y b=>z y (Qe _ b));have ab:Ca rest w e:=n.sameB (fun y b=>B y (p y (Qd _ b))) (fun y b=>z y (Qd _ b));obtain⟨af,O,ae,g,k,P,Q⟩:=R.erase hu S U T Z;rw[ad]at g;injection g with g
 subst g;obtain⟨N,k1,k2⟩:=A.back (CT s) _ _ (by rw[hcut];exact P.pat) ab;refine⟨O,N,k,k1,fun a=> ?_,n,D,fun o=> ?_⟩
 .have K:=k2.count_eq a;have L:=E a;have M:=Q.count_eq a;simp only[List.count_cons,List.count_append,Vl.ownBlock,Option.toList_some,List.count_nil]at K L M|-;omega
 .exact(List.nodup_cons.1 C).1 (D W o)
end
section
open _root_.Go.Proofs.Tryz
open Go Go.Shelf Go.RowKit Go.Lib Tree Ptr
variable{ts:List BY}{a:List Nat}{W:Nat}{p:Prop}{t:Tr}{b:Vl}{w:Wl}
theorem Hh{P:Program}{c:Func}{p q:Tmp}{b:Ti}(h:c.results=#[.tmp q,.cell p b])(a:Array Vl)(w:Wl)(g:Nat)(T:Ti)(cs:List Vl)(d:TypeDesc)(i:a.getD p undef= nP (nM ⟨g,0,nN⟩))(e:Ac w g cs T)(l:P.underlying b=nM d)(f:(match d with| .struct _| .array _ _=>true|_=>false)=true)(hi:(P.info? b).map (·.size)=nM cs.length):
  (results c a).run P w= .ok (nT #[a.getD q undef,nA cs.toArray]) w:=by
 have j:a[p]?.getD undef= nP (nM ⟨g,0,nN⟩):=by simpa using i
 have k:=run_loadVar_row (P:=P) w g T b cs.toArray (0,0) d e l f (by simpa using hi);simp[results,h,j,asAddr,k]
def T6(W:Nat)(h:Vl)(d:List Nat)(g u:Tr)(o:Bq)(w:Wl)(e:Ending)(w':Wl):Prop:=
 ∃f c v' a sv ys G,e= nR (nT #[f,nA (BJ o sv).toArray])/\Dr w w' o sv ys G/\AP w' u f c/\Hu w' W g v' h a/\DJ w d (W::(c++a))/\Chg w w' d/\∀b,b∈W::(c++a)->¬G b
def EC(W:Nat)(b:Vl)(a:List Nat)(t:Tr)(ts:List BY)(w:Wl)(e:Ending)(w':Wl):Prop:=match Ah t ts with
 |none=>AZ 4 a w e w'
 |some u=>T6 W b a (A8 t ts) u (AC 1 ts (Ai u)) w e w'
theorem JE(h:Ah t ts=nN):EC W b a t ts w=AZ 4 a w:=by
 funext e w';unfold EC;rw[h]
theorem JF{u:Tr}(h:Ah t ts=nM u):EC W b a t ts w=T6 W b a (A8 t ts) u (AC 1 ts (Ai u)) w:=by
 funext e w';unfold EC;rw[h]
structure UI(W:Nat)(t:Tr)(v uv:Vl)(bs:List Nat)(F:Nat->Prop)(sl:Vl)(ts:List BY)(w:Wl):Prop where
 laid:Br w
 wat:Hu w W t v uv bs
 tat:JC w F sl ts
 nodup:(W::bs).Nodup
 big:∀b,b∈W::bs->10<=b
 apart:∀b,b∈W::bs->¬F b
theorem JH(t:Tr)(a:List BY)(s:BY):A8 t (a++[s])=Bz (CT s) t a:=by
 unfold A8;rw[List.dropLast_concat,BE]
theorem RJ(W:Nat)(t:Tr)(v m:Vl)(bs:List Nat)(F:Nat->Prop)(a:Option Addr)(n c:Nat)(ts:List BY)(w:Wl)(l:List Nat)(d:Br w)(g:Hu w W t v m bs)(f:JC w F (nS a n c) ts)(i:Ah t ts=nN):
  Cl prog 102 #[nP (nM ⟨W,0,nN⟩),nS a n c] w (AZ 4 l w):=by
 have k:=hZ (Im d g f i);clear d g f i;go_enter func102,ntmps102
 go_wp2_with(first
  |(go_at_call 105;refine(k.o _ ru).mono ?_;rintro e o ⟨h,b⟩;unfold By at h;subst h;have j:=UD (Chg w o []) (ct cR b);clear b))
 exact⟨rfl,rfl,j.o.none _⟩
theorem gv(h:p:=by exact Qg _ (M5.o _ Zh)):p:=h
theorem RI(W:Nat)(t u:Tr)(v uv:Vl)(bs:List Nat)(F:Nat->Prop)(a:Option Addr)(c:Nat)(p:List BY)(s:BY)(w:Wl)(l:List Tr)(h:UI W t v uv bs F (nS a (p.length+1) c) (p++[s]) w)(P:Ah t p=nM (.list l))(ao:Dy (.list l) s=nM u):
  Cl prog 102 #[nP (nM ⟨W,0,nN⟩),nS a (p.length+1) c] w (EC W uv (W::bs) t (p++[s]) w):=by
 obtain⟨pi,Z,hu⟩:=Rd ao;have ap:p++[s]≠[]:=Zh;have Y:Ah t (p++[s])=nM u:=by rw[BW,P];exact ao
 obtain⟨b,o,rfl,ag,aD,a6,bk,bl,a2⟩:=h.tat.last;have lb:=h.tat.lt b ag;obtain⟨tv,xv,rfl⟩:=h.wat.at_.iface;obtain⟨vp,bp,rest,K⟩:=EU h.wat.at_ _ p _ rfl P;obtain⟨n,sv,vs,fs,rfl,z,V⟩:=K.at_.list;have a5:l.length<=65536:=by have:=(h.wat.fine.lead P).many;simp only[Ab]at this;omega
 have a9:pi<l.length:=Jf Z;obtain⟨vu,bu,aa,ar,aY⟩:=z.at_.get hu;obtain⟨_,_,_,_,bc,be,r2,_,C,q6,q7,aF⟩:=Fx K.at_ (s:=s) (by simp only[D6];exact Z) hu;have aG:=K.snoc aF;obtain⟨R,S,rfl⟩:=ar.iface;have aL:=z.at_.length
 obtain⟨g,r,rfl,bh⟩:∃g r,sv= nS (nM ⟨g,0,nN⟩) vs.length r/\vs.length<=r:=by
  rcases z.lst.one with⟨_,e⟩|h
  .rw[e]at aa;simp at aa
  .exact h
 have ba:bc= nF R S:=by
  unfold Jn at C;injection C with _ C
  injection C with C
  injection C with C
  injection C with C
  subst C;have A:=z.blk.cell 0;simp only[Qa]at A;rw[q6]at A;injection A with A
  injection A with A
  injection A with A
  injection A with A
  subst A;have e7:=z.lst.cell rfl pi _ aa;rw[q7]at e7;injection e7
 subst ba;have X:=h.wat.fine.lead Y;have aJ:=Ar h.wat.fine.fits;have aK:=Ar X.fits;obtain⟨q1,q2⟩:=R9 h.wat.fine ap Y (by rw[List.dropLast_concat];exact P);have q2:(Ag (A8 t (p++[s]))).bytes+(Ag u).bytes+0=(Ag t).bytes:=q2;have aE:Bt (A8 t (p++[s])):=h.wat.fine.cut ap Y;have a4:(p++[s]).length=p.length+1:=Zh;have aB:=hZ (Dl h.laid h.wat h.tat aG);have ae:=hZ (Ud h.laid h.wat h.tat.init K);unfold Jn at ae;have az:=UD (∀q,Chg w q []->JB (nF R S) (Ag u) q) fun q L=>MD _ u _ bu q (Q8 _) X.good X.fits (ar.chg L Zh);have ak:∀y,y∈bp->y∈bs:=fun y k=>K.perm.mem_iff.2 (Qe _ k);have am:g∈bs:=ak g (by rw[V];simp[Vl.ownBlock]);have al:n∈bs:=ak n (by rw[V];simp);have ai:W∉bs:=(List.nodup_cons.1 h.nodup).1
 have aH:g≠n:=fun e=>by
  have I:=List.nodup_iff_count.1 h.nodup g;have D:=K.perm.count_eq g;rw[V,<-e]at D;simp only[List.count_cons,List.count_append,Vl.ownBlock,Option.toList_some,List.count_nil]at I D;simp at I D;omega
 have an:∀y,y∈[W,n,g]->y∈W::bs:=fun y k=>by simp at k;rcases k with rfl|rfl|rfl;simp;simp[al];simp[am]
 have aA:=UD (∀q H,Chg w q [W,n,g]->AP q u (nF R S) H->Cl prog 130 #[nI nX 1,nS (nM ⟨b,o,nN⟩) (p.length+1) c,nF R S] q (Et (AC 1 (p++[s]) (Ai u)) q)) fun q H L a8=>by
  have ht:=h.tat.kept L (fun y k=>h.apart y (an y k));exact DE 1 F _ (p++[s]) u _ H q (h.laid.kept L (fun y k=>h.big y (an y k))) ht.row ht.lt ht.ok ht.small X a8
 have c1:w.cell? ⟨n,0,nN⟩=nM (nS (nM ⟨g,0,nN⟩) vs.length r):=z.blk.cell 0;have a7:=z.at_.one;have aI:∀y∈vs,∃t x,y= nF t x:=Ih z.at_;have a3:pi<vs.length:=Zj;have bm:vs.length<=65536:=Zj
 have aO:=UD (∀q,Chg w q []->Cl prog 138 #[nG s,nI nX vs.length] q (fun e w'=>e= nR (nT #[nI nX pi,.bool true])/\Chg q w' [])) fun q L=>by
  have:=Gl s l.length q (h.laid.kept L) Zj Zj;unfold Je at this;rw[Z]at this;rw[aL];exact this
 have aN:=UD (∀q,Chg w q []->Cl prog 137 #[nS (nM ⟨g,0,nN⟩) vs.length r,nI nX pi,nI nX (pi+1)] q (fun e w'=>e= nR (nS (nM ⟨g,0,nN⟩) (vs.length-1) r)/\AK w' (nS (nM ⟨g,0,nN⟩) (vs.length-1) r) 66 (vs.eraseIdx pi)/\Chg q w' [g])) fun q L=>
  NV g r pi vs q aI (z.lst.kept L) a3
 have hcut:CT s (.list l)= .list (l.eraseIdx pi):=by
  unfold CT;simp only[D6,Z]
 have aQ:=UD (∀wR,Chg w wR [n,g]->Ac wR n [nS (nM ⟨g,0,nN⟩) (vs.length-1) r] 74->AK wR (nS (nM ⟨g,0,nN⟩) (vs.length-1) r) 66 (vs.eraseIdx pi)->OP w wR W (Bz (CT s) t p) u (nF tv xv) (nF R S) bs [n,g]) fun wR B J k3=>
  Wo h.wat K z V h.nodup hu aa hcut B J k3
 have bg:b≠W:=fun e=>h.apart W Zh (by rw[<-e];exact ag);have aW:W≠n:=fun e=>ai (by rw[e];exact al);have aX:W≠g:=fun e=>ai (by rw[e];exact am);have lW:=h.wat.blk.lt;have bo:=z.blk.lt;have lg:=z.lst.lt (g:=g) rfl;have aC:=z.blk;have a0:∀(w:Wl),(Instr.typeAssert (nF 71 (nP (nM ⟨n,0,nN⟩))) 66 123 true).run prog w= .ok (nT #[nP nN,.bool false]) w:=fun _=>Yb;have a1:∀(w:Wl),(Instr.typeAssert (nF 71 (nP (nM ⟨n,0,nN⟩))) 66 71 true).run prog w= .ok (nT #[nP (nM ⟨n,0,nN⟩),.bool true]) w:=fun _=>Yb;have HH:=hZ h;have ax:=hZ h.wat.blk;have aP:=hZ aC;have ay:=hZ aE;have M:=UD (((Ag (A8 t (p++[s]))).nodes:Int)=(Ag t).nodes-(Ag u).nodes/\((Ag (A8 t (p++[s]))).bytes:Int)=(Ag t).bytes-(Ag u).bytes) ⟨Zj,Zj⟩;rw[JF Y];obtain⟨m,d⟩:=Ue p.length;rw[<-d]at aB ae aA aD a6 a2|-;obtain⟨N,hN⟩:=Ue ((Ag t).nodes);obtain⟨BB,af⟩:=Ue ((Ag t).bytes);obtain⟨su,au⟩:=Ue (Ag u);rw[<-hN,<-af]at ax aJ;rw[<-hN,<-af,<-au]at M;rw[<-au]at az aK;obtain⟨t1,t2,t3⟩:=aJ;obtain⟨s1,s2,s3⟩:=aK;have t4:su.nodes<=N:=by have:=M.o.1;omega
 have t5:su.bytes<=BB:=by have:=M.o.2;omega
 clear h ap Y K z Z hu aa ar X q1 q2 a4 d V aY aL a9 ag P ao aF aG ak an C q6 q7 aE a7 aI hcut aC hN af au a5 ai am al;go_enter func102,ntmps102
 go_wp2_with(first
  |(go_at_call 105;refine(aB.o _ ru).mono ?_;rintro e w1 ⟨rfl,I⟩;have H1:=UD (Chg w w1 []) (ct cR I);have B1:=UD (Ac w1 w.heap.size Ef 44) ((Ac.new w Ef 44).kept I);obtain⟨f,args,Q,B⟩:=az.o w1 H1.o;have HM:=hZ Q;have HC:=hZ B;clear I Q B)
  |(refine Am rfl _ _ _ rfl _ rfl f args HM.o _ HC.o ?_;rintro e w2 ⟨rfl,D⟩;refine⟨_,rfl, ?_⟩;have H2:=UD (Chg w w2 []) (H1.o.trans D);have B2:=UD (Ac w2 w.heap.size Ef 44) (B1.o.kept D);unfold Jv;have e0:=H2.o.keeps aD;clear D)
  |(go_at_call 135;refine(ae.o _ (by exact cg H2.o)).mono ?_;rintro e w3 ⟨rfl,h3⟩;have H3:=UD (Chg w w3 []) (ct H2.o h3);have B3:=UD (Ac w3 w.heap.size Ef 44) (B2.o.kept h3);have d3:=H3.o.keeps c1;clear h3)
  |(go_at_call 138;refine(aO.o _ (by exact cg H3.o)).mono ?_;rintro e w4 ⟨rfl,h4⟩;have H4:=UD (Chg w w4 []) (ct H3.o h4);have B4:=UD (Ac w4 w.heap.size Ef 44) (B3.o.kept h4);have d4:=H4.o.keeps c1;clear h4)
  |(go_at_call 137;refine(aN.o _ (by exact cg H4.o)).mono ?_;rintro e E ⟨rfl,B,J⟩;have bd:=UD (Chg w4 E [g]) J;have H5:=UD (Chg w E [g]) ((H4.o.none _).trans J);have L5:=hZ B;have B5:=UD (Ac E w.heap.size Ef 44) (B4.o.kept J le);have ab:=hZ (aP.o.kept H5.o (by simp;exact fun e=>aH e.symm));have d5:=ab.o.cell 0;have f5:∀j,E.frozen? ⟨n,j,nN⟩=false:=fun j=>ab.o.frozen j;have l5:=ab.o.lt;have U:=hZ (ax.o.kept H5.o (by simp;exact aX));have aT:=U.o.cell 1;have aU:=U.o.cell 2;have bf:∀j,E.frozen? ⟨W,j,nN⟩=false:=fun j=>U.o.frozen j;have bn:=U.o.lt;simp only[Qa,Qb]at d5 aT aU;clear B J)
  |(go_at_call 130;have aR:=hZ (ab.o.set 0 (nS (nM ⟨g,0,nN⟩) (vs.length-1) r));have aw:=UD (Chg E (E.setCell ⟨n,0,nN⟩ (nS (nM ⟨g,0,nN⟩) (vs.length-1) r)) [n]) ((Chg.refl E [n]).setCell _ _ Zh);have L6:=hZ (L5.o.kept aw.o (fun y k=>by simp[Vl.ownBlock]at k;subst k;simpa using aH));have H6:=UD (Chg w (E.setCell ⟨n,0,nN⟩ (nS (nM ⟨g,0,nN⟩) (vs.length-1) r)) [n,g]) ((H5.o.mono (fun _ _ d=>by simp at d;simp[d])).trans (aw.o.mono (fun _ _ d=>by simp at d;simp[d])));obtain⟨H,ad,Q,m2,av,m4,m5,m6⟩:=aQ.o _ H6.o aR.o L6.o;have aS:=hZ av;have m3:DJ w (W::bs) (W::(H++ad)):=(DJ.refl HH.o.nodup).count av;have aj:W∉H++ad:=(List.nodup_cons.1 m3.nodup).1;have M1:=hZ Q;have M2:=hZ m2;have M3:=hZ m3;have M5:=hZ m5;refine(aA.o _ H (by exact((H6.o.mono (cs:=[W,n,g]) (fun _ _ d=>Qg _ d)).setCell _ _ Zh).setCell _ _ Zh) (by exact Q.chg (cs:=[W]) (((Chg.refl _ [W]).setCell _ _ Zh).setCell _ _ Zh) (fun y k d=>by simp at k;subst k;exact aj (Qe _ d)))).mono ?_;clear Q m2 m3 av m4 m5 m6;rintro e w6 h5;obtain⟨sv,ys,G,rfl,B,J⟩:=h5.at;have K1:=hZ B;have K2:=hZ J;obtain⟨sa,sc,rfl,_⟩:=B.row.form;clear h5 B J)
  |(refine uO (ds:=(BJ (AC 1 (p++[s]) (Ai u)) (nS sa (AC 1 (p++[s]) (Ai u)).steps.length sc))) ((((B5.o.set_other _ _ ms).set_other _ _ ms).set_other _ _ ms).kept K2.o) (Dx _ _ _ _) ?_;intro w7 aM T))
 have bb:=H5.o.size;have ah:Chg (E.setCell ⟨n,0,nN⟩ (nS (nM ⟨g,0,nN⟩) (vs.length-1) r)) w6 [W]:=Chg.trans (b:=_) (((Chg.refl _ [W]).setCell _ _ Zh).setCell _ _ Zh) (K2.o.none _);have aZ:Chg w w6 [W,n,g]:=(H6.o.mono (fun _ _ d=>Qg _ d)).trans (ah.mono (fun _ _ d=>by simp at d;simp[d]));have aV:Chg w w7 [W,n,g]:=aZ.step T.o (fun i hi P=>by simp at hi;omega);have hk:=K1.o.kept (w0:=w) T.o (fun b O=>by simp at O;subst O;simpa using B5.o.lt) (by simpa using bb);have bj:=AP.lt _ _ _ M1.o;have bi:=AP.lt _ _ _ M2.o
 have aq:∀y,y∈W::(H++ad)->y<w.heap.size:=fun y k=>by
  have I:=List.count_pos_iff.2 k;have D:=aS.o y;rcases Qh.1 (List.count_pos_iff.1 (Q6 I D))with h|h
  .omega
  .exact AP.lt _ _ _ HH.o.wat.at_ _ h
 refine bodyPost_ret (Hh rfl _ _ w.heap.size 44 (BJ (AC 1 (p++[s]) (Ai u)) (nS sa (AC 1 (p++[s]) (Ai u)).steps.length sc)) _ rfl aM.o underlying44 rfl A0) rfl ?_;rw[JH]at M ay|-;refine⟨nF R S,H,nF tv xv,ad,_,ys,G,rfl,hk, ?_,⟨?_, ?_,ay.o⟩,M3.o,aV.mono (fun _ _ d=> ?_),fun b O hG=> ?_⟩
 .exact(M1.o.chg ah (fun y k d=>by simp at k;subst k;exact aj (Qe _ d))).chg T.o (fun y k d=>by simp at k;subst k;exact Nat.lt_irrefl _ (aq _ (Qg _ (Qe _ d))))
 .have e1:=M.o.1;have e2:=M.o.2;have O:=(((U.o.set_other ⟨n,0,nN⟩ (nS (nM ⟨g,0,nN⟩) (vs.length-1) r) (by simp only;exact fun e=>aW e.symm)).set 1 (nI nX (N-su.nodes))).set 2 (nI nX (BB-su.bytes)));rw[e1,e2];exact(O.kept K2.o).kept T.o le
 .exact(M2.o.chg ah (fun y k d=>by simp at k;subst k;exact aj (Qd _ d))).chg T.o (fun y k d=>by simp at k;subst k;exact Nat.lt_irrefl _ (aq _ (Qg _ (Qd _ d))))
 .simp at d;rcases d with rfl|rfl|rfl
  .simp
  .exact gv
  .exact gv
 .have I:=(hk.new b hG).1;have D:=aq b O;omega
theorem rb(h:p:=by go_simp;exact p _ _ Zh (d.plain ZM ZM ZM ZM (by simp[Ed]) cR)):p:=h
theorem nn(h:p:=by have aw:rS a 14= nP (nM ⟨n,0,nN⟩):=L.at 14 Yb;exact rb):p:=h
theorem n8(h:p:=by have aR:IntKind.i64.wrap ((pi:Int)+1)=(pi:Int)+1:=IntWalk.i64_in _ Zj;go_simp;exact p _ _ Zh (d.plain ZM ZM ZM ZM (by simp[Ed,aR]) cR)):p:=h
theorem n9(h:p:=by have ax:rS a 15= nI nX pi:=L.at 15 Yb;exact rb):p:=h
theorem fb(h:p:=by have:=af.2.1;omega):p:=h
theorem TD(W:Nat)(t u:Tr)(v uv:Vl)(bs:List Nat)(F:Nat->Prop)(a:Option Addr)(c:Nat)(z:List BY)(s:BY)(w:Wl)(ks:List BY)(l:List Tr)(h:UI W t v uv bs F (nS a (z.length+1) c) (z++[s]) w)(hl:Ah t z=nM (.obj ks l))(aJ:Dy (.obj ks l) s=nM u):
  Cl prog 102 #[nP (nM ⟨W,0,nN⟩),nS a (z.length+1) c] w (EC W uv (W::bs) t (z++[s]) w):=by
 obtain⟨hh,Y⟩:=Uk aJ;have aK:z++[s]≠[]:=Zh;have ah:Ah t (z++[s])=nM u:=by rw[BW,hl];exact aJ
 obtain⟨b,o,rfl,aA,a3,bG,bJ,bK,bx⟩:=h.tat.last;have lb:=h.tat.lt b aA;obtain⟨tv,xv,rfl⟩:=h.wat.at_.iface;obtain⟨vp,bp,rest,T⟩:=EU h.wat.at_ _ z _ rfl hl;obtain⟨n,sv,sk,vs,fs,rfl,C,aa⟩:=T.at_.obj;have aF:=h.wat.fine.lead hl;have af:=aF.good;have bF:l.length<=65536:=by have:=aF.many;simp only[Ab]at this;omega
 have a9:=Dk (Cp.1 hh);have aB:=S0 (s:=s) C af.1 bJ bK hh
 have hcut:CT s (.obj ks l)= .obj (ks.eraseIdx (A5 ks s)) (l.eraseIdx (A5 ks s)):=by
  unfold CT;simp only[D6,Qr hh]
 have aN:D6 (.obj ks l) s=nM (A5 ks s):=by simp only[D6];rw[Qr hh]
 obtain⟨pi,a8⟩:=Ue (A5 ks s);rw[<-a8]at aB a9 Y hcut aN;have bg:=hZ aB;have bI:pi<l.length:=fb
 obtain⟨vu,bu,ak,aO,bv⟩:=C.at_.get Y;obtain⟨_,_,_,_,bP,bT,r2,_,M,q6,q7,a6⟩:=Fx T.at_ (s:=s) aN Y;have a7:=T.snoc a6;obtain⟨tu,xu,rfl⟩:=aO.iface;have bL:=C.at_.length
 obtain⟨q,cv,rfl,cu⟩:∃g c',sv= nS (nM ⟨g,0,nN⟩) vs.length c'/\vs.length<=c':=by
  rcases C.lst.one with⟨_,e⟩|h
  .rw[e]at ak;simp at ak
  .exact h
 obtain⟨gk,ck,rfl,cr⟩:∃g c',sk= nS (nM ⟨g,0,nN⟩) ks.length c'/\ks.length<=c':=by
  rcases C.keys.one with⟨_,e⟩|h
  .have:=Ao ks;rw[e]at this;simp at this;omega
  .rw[Ao]at h;exact h
 have bM:bP= nF tu xu:=by
  unfold IR at M;injection M with _ M
  injection M with M
  injection M with M
  injection M with M
  subst M;have J:=C.blk.cell 0;simp only[Qa]at J;rw[q6]at J;injection J with J
  injection J with J
  injection J with J
  injection J with J
  subst J;have e7:=C.lst.cell rfl pi _ ak;rw[q7]at e7;injection e7
 subst bM;have ae:=h.wat.fine.lead ah;have ba:=Ar h.wat.fine.fits;have bb:=Ar ae.fits;obtain⟨Z,q2⟩:=R9 h.wat.fine aK ah (by rw[List.dropLast_concat];exact hl);rw[BE]at q2;have q2:(Ag (A8 t (z++[s]))).bytes+(Ag u).bytes+s.size=(Ag t).bytes:=q2;have a5:Bt (A8 t (z++[s])):=h.wat.fine.cut aK ah;have bE:(z++[s]).length=z.length+1:=Zh;have aY:=hZ (Dl h.laid h.wat h.tat a7);have ar:=hZ (Ud h.laid h.wat h.tat.init T);unfold IR at ar;have aW:=UD (∀O,Chg w O []->JB (nF tu xu) (Ag u) O) fun O hx=>MD _ u _ bu O (Q8 _) ae.good ae.fits (aO.chg hx Zh);have ao:∀y,y∈bp->y∈bs:=fun y r=>T.perm.mem_iff.2 (Qe _ r);have aH:q∈bs:=ao q (by rw[aa];simp[Vl.ownBlock]);have aG:gk∈bs:=ao gk (by rw[aa];simp[Vl.ownBlock]);have aE:n∈bs:=ao n (by rw[aa];simp);have an:W∉bs:=(List.nodup_cons.1 h.nodup).1
 have a4:∀y,List.count y [n,gk,q]<=1:=fun y=>by
  have S:=List.nodup_iff_count.1 h.nodup y;have R:=T.perm.count_eq y;rw[aa]at R;simp only[List.count_cons,List.count_append,Vl.ownBlock,Option.toList_some,List.count_nil]at S R|-;omega
 have ai:[n,gk,q].Nodup:=List.nodup_iff_count.2 a4
 have aL:gk≠n/\q≠n/\gk≠q:=by
  simp at ai;exact⟨fun e=>ai.1.1 e.symm,fun e=>ai.1.2 e.symm,ai.2⟩
 have aI:∀y,y∈[W,n,gk,q]->y∈W::bs:=fun y r=>by simp at r;rcases r with rfl|rfl|rfl|rfl;simp;simp[aE];simp[aG];simp[aH]
 have aX:=UD (∀O Q,Chg w O [W,n,gk,q]->AP O u (nF tu xu) Q->Cl prog 130 #[nI nX 1,nS (nM ⟨b,o,nN⟩) (z.length+1) c,nF tu xu] O (Et (AC 1 (z++[s]) (Ai u)) O)) fun O Q hx bH=>by
  have ht:=h.tat.kept hx (fun y r=>h.apart y (aI y r));exact DE 1 F _ (z++[s]) u _ Q O (h.laid.kept hx (fun y r=>h.big y (aI y r))) ht.row ht.lt ht.ok ht.small ae bH
 have bB:∀y∈vs,∃t x,y= nF t x:=Ih C.at_;have bD:pi<vs.length:=Zj;have bC:pi<ks.length:=fb
 have cx:vs.length<=65536:=Zj;have cw:ks.length<=65536:=fb
 have bk:=UD (∀E V ad,Chg w E [n,gk,q]->Ac E n [nS (nM ⟨q,0,nN⟩) (vs.length-1) ad,nS (nM ⟨gk,0,nN⟩) (ks.length-1) V] 125->AK E (nS (nM ⟨q,0,nN⟩) (vs.length-1) ad) 66 (vs.eraseIdx pi)->AK E (nS (nM ⟨gk,0,nN⟩) (ks.length-1) V) 9 (Ad (ks.eraseIdx pi))->OP w E W (Bz (CT s) t z) u (nF tv xv) (nF tu xu) bs [n,gk,q]) fun E V ad H U k3 k4=>
  Wp h.wat T C aa h.nodup Y ak hcut H U k3 k4
 have cq:b≠W:=fun e=>h.apart W Zh (by rw[<-e];exact aA);have cn:W≠n:=fun e=>an (by rw[e];exact aE);have co:W≠gk:=fun e=>an (by rw[e];exact aG);have cp:W≠q:=fun e=>an (by rw[e];exact aH);have lW:=h.wat.blk.lt;have cz:=C.blk.lt;have cB:=C.lst.lt (g:=q) rfl;have cA:=C.keys.lt (g:=gk) rfl;have a0:∀(w:Wl),(Instr.typeAssert (nF 123 (nP (nM ⟨n,0,nN⟩))) 66 123 true).run prog w= .ok (nT #[nP (nM ⟨n,0,nN⟩),.bool true]) w:=fun _=>Yb;have HH:=hZ h;have aU:=hZ h.wat.blk;have bh:=hZ C.blk;have bi:=hZ C.keys;have bj:=hZ C.lst;have aV:=hZ a5;have HQ:=UD (((Ag (A8 t (z++[s]))).nodes:Int)=(Ag t).nodes-(Ag u).nodes/\((Ag (A8 t (z++[s]))).bytes:Int)=(Ag t).bytes-((Ag u).bytes+s.size)) ⟨Zj,Zj⟩
 have bf:=UD (∀I,w.heap.size<=I.heap.size->Nh I n (nS (nM ⟨q,0,nN⟩) vs.length cv) (nS (nM ⟨gk,0,nN⟩) ks.length ck)) fun I hz=>⟨Zj,fun g hg=>by
  simp[Vl.ownBlock]at hg;subst hg;exact⟨Zj,aL.1,by simp[Vl.ownBlock];exact fun e=>aL.2.2 e.symm⟩,fun g hg=>by
  simp[Vl.ownBlock]at hg;subst hg
  exact⟨Zj,aL.2.1⟩⟩
 rw[JF ah];obtain⟨m,A⟩:=Ue z.length;rw[<-A]at aY ar aX a3 bG bx|-;obtain⟨N,hN⟩:=Ue ((Ag t).nodes);obtain⟨BB,az⟩:=Ue ((Ag t).bytes);obtain⟨su,aP⟩:=Ue (Ag u);rw[<-hN,<-az]at aU ba;rw[<-hN,<-az,<-aP]at HQ;rw[<-aP]at aW bb;obtain⟨t1,t2,t3⟩:=ba;obtain⟨s1,s2,s3⟩:=bb;have t4:su.nodes<=N:=by have:=HQ.o.1;omega
 have t5:su.bytes+s.size<=BB:=by have:=HQ.o.2;omega
 clear h aK ah T C a8 Y ak aO ae Z q2 bE A aa bv bL bI a9 aA hl aJ a6 a7 ao aI M q6 q7 a5 hcut hN az aP bF an aH aG aE hh aF af aB aN a4 ai;go_enter func102,ntmps102
 go_wp2_with(first
  |(go_at_call 105;refine(aY.o _ ru).mono ?_;rintro e w1 ⟨rfl,S⟩;have H1:=UD (Chg w w1 []) (ct cR S);have B1:=UD (Ac w1 w.heap.size Ef 44) ((Ac.new w Ef 44).kept S);obtain⟨f,args,m1,H⟩:=aW.o w1 H1.o;have HM:=hZ m1;have HC:=hZ H;clear S m1 H)
  |(refine Am rfl _ _ _ rfl _ rfl f args HM.o _ HC.o ?_;rintro e w2 ⟨rfl,R⟩;refine⟨_,rfl, ?_⟩;have H2:=UD (Chg w w2 []) (H1.o.trans R);have B2:=UD (Ac w2 w.heap.size Ef 44) (B1.o.kept R);unfold Jv;have e0:=H2.o.keeps a3;clear R)
  |(go_at_call 135;refine(ar.o _ (by exact cg H2.o)).mono ?_;rintro e w3 ⟨rfl,h3⟩;have H3:=UD (Chg w w3 []) (ct H2.o h3);have B3:=UD (Ac w3 w.heap.size Ef 44) (B2.o.kept h3);clear h3)
  |(go_at_call 131;refine(bg.o _ (by exact cg H3.o)).mono ?_;rintro e al ⟨rfl,h4⟩;have bd:=UD (Chg w al []) (ct H3.o h4);have bc:=UD (Ac al w.heap.size Ef 44) (B3.o.kept h4);clear h4))
 obtain⟨I,aQ⟩:=Ue al.drew;have bl:=hZ aQ;have aT:Hid (Chg al I []):=by rw[aQ];exact hZ ((Chg.refl al []).drew)
 have H4:=UD (Chg w I []) (bd.o.trans aT.o);have B4:=UD (Ac I w.heap.size Ef 44) (bc.o.kept aT.o);have bO:=H4.o.size;have ag:=bf.o I bO;have p1:=bh.o.kept H4.o;have p2:=bi.o.kept H4.o;have p3:=bj.o.kept H4.o
 have a2:∀f,OQ I n pi (ks.length-1) (vs.length-1) (nS (nM ⟨q,0,nN⟩) vs.length cv) (nS (nM ⟨gk,0,nN⟩) ks.length ck) ks (ks.eraseIdx pi) vs (vs.eraseIdx pi) (fun _=>false) f I:=fun f=>
  ⟨Chg.refl _ _,(fun _ e=>by cases e),(fun e=>by cases e),(fun e=>by cases e),(fun e=>by cases e),(fun e=>by cases e),fun _=>p1,(fun e=>by cases e),(fun e=>by cases e),fun _=>p2,fun _=>p3,(fun e=>by cases e),(fun e=>by cases e)⟩
 clear aQ;refine wp_region_any Yb ?_;change wpAny _ _ _ _ _ _ _ (World.drew _);rw[<-bl.o];refine Gy _ (OQ I n pi (ks.length-1) (vs.length-1) (nS (nM ⟨q,0,nN⟩) vs.length cv) (nS (nM ⟨gk,0,nN⟩) ks.length ck) ks (ks.eraseIdx pi) vs (vs.eraseIdx pi)) Yb ?_ ?_ _ ?_
 .intro ii op a wa dd ho L P aq d K p;have B:=fun k=>aq ⟨k,.data⟩;match ii,ho with
  |0,rfl=>
   exact nn
  |1,rfl=>
   exact nn
  |2,rfl=>
   exact nn
  |3,rfl=>
   have bZ:rS a 56= nP (nM ⟨n,0,nN⟩):=d.vals 2 (B 2 Zh rfl);exact rb
  |4,rfl=>
   have b0:rS a 57= nP (nM ⟨n,0,nN⟩):=d.vals 3 (B 3 Zh rfl);exact rb
  |5,rfl=>
   have b1:rS a 58= nP (nM ⟨n,1,nN⟩):=d.vals 4 (B 4 Zh rfl)
   have av:dd 21=false:=by
    cases e:dd 21 with
    |false=>rfl
    |true=>have ay:=d.o21 e;have h:=d.o9 (d.o18 ay).1;rw[P]at h;cases h
   have D:=d.blk0 av;have X:=D.cell 1;simp only[Qa,Qb]at X;exact rb
  |6,rfl=>
   exact n9
  |7,rfl=>
   exact n9
  |8,rfl=>
   have b4:rS a 61= nI nX pi:=d.vals 7 (B 7 Zh rfl);exact n8
  |9,rfl=>
   have d5:=B 5 Zh rfl;have b2:rS a 59= nS (nM ⟨gk,0,nN⟩) ks.length ck:=d.vals 5 d5;have b3:rS a 60= nI nX pi:=d.vals 6 (B 6 Zh rfl);have b5:rS a 62= nI nX (pi+1):=d.vals 8 (B 8 Zh rfl);have br:=d.keys0 P;go_simp;go_at_call 136;refine(QD gk ck pi ks wa br bC).mono ?_;rintro e w1 ⟨rfl,H,U⟩;exact p _ _ Zh (d.call9 ag P d5 H U rfl)
  |10,rfl=>
   exact nn
  |11,rfl=>
   have b7:rS a 64= nP (nM ⟨n,0,nN⟩):=d.vals 10 (B 10 Zh rfl);exact rb
  |12,rfl=>
   have b8:rS a 65= nP (nM ⟨n,0,nN⟩):=d.vals 11 (B 11 Zh rfl);exact rb
  |13,rfl=>
   have b9:rS a 66= nP (nM ⟨n,0,nN⟩):=d.vals 12 (B 12 Zh rfl);exact rb
  |14,rfl=>
   have ca:rS a 67= nP (nM ⟨n,0,nN⟩):=d.vals 13 (B 13 Zh rfl)
   have av:dd 21=false:=by
    cases e:dd 21 with
    |false=>rfl
    |true=>have ay:=d.o21 e;have h:=(d.o18 ay).2;rw[P]at h;cases h
   have D:=d.blk0 av;have X:=D.cell 0;simp only[Qa,Qb]at X;exact rb
  |15,rfl=>
   exact n9
  |16,rfl=>
   exact n9
  |17,rfl=>
   have cd:rS a 70= nI nX pi:=d.vals 16 (B 16 Zh rfl);exact n8
  |18,rfl=>
   have aZ:=B 14 Zh rfl;have d9:=aq ⟨9,.chain⟩ Zh rfl;have cb:rS a 68= nS (nM ⟨q,0,nN⟩) vs.length cv:=d.vals 14 aZ;have cc:rS a 69= nI nX pi:=d.vals 15 (B 15 Zh rfl);have ce:rS a 71= nI nX (pi+1):=d.vals 17 (B 17 Zh rfl);have bt:=d.items0 P;go_simp;go_at_call 137;refine(NV q cv pi vs wa bB bt bD).mono ?_;rintro e w1 ⟨rfl,H,U⟩;exact p _ _ Zh (d.call18 ag P d9 aZ H U rfl)
  |19,rfl=>
   have bX:rS a 54= nP (nM ⟨n,0,nN⟩):=d.vals 0 (B 0 Zh rfl);exact rb
  |20,rfl=>
   have ch:rS a 73= nP (nM ⟨n,0,nN⟩):=d.vals 19 (B 19 Zh rfl);exact rb
  |21,rfl=>
   have a1:=aq ⟨18,.chain⟩ Zh rfl;have ci:rS a 74= nP (nM ⟨n,1,nN⟩):=d.vals 20 (B 20 Zh rfl);obtain⟨g,cap,Z,q2,q3⟩:=d.r9 (d.o18 a1).1;have b6:rS a 63= nS (nM ⟨g,0,nN⟩) (ks.length-1) cap:=Z;have D:=d.blk0 P;have X:=D.cell 1;have bA:=D.frozen 1;simp only[Qa,Qb]at X;have aj:=d.store21 ag P a1;rw[Z]at aj;go_simp;exact p _ _ Zh aj
  |22,rfl=>
   have bY:rS a 55= nP (nM ⟨n,0,nN⟩):=d.vals 1 (B 1 Zh rfl);exact rb
  |23,rfl=>
   have cj:rS a 75= nP (nM ⟨n,0,nN⟩):=d.vals 22 (B 22 Zh rfl);exact rb
  |24,rfl=>
   have cl:rS a 76= nP (nM ⟨n,0,nN⟩):=d.vals 23 (B 23 Zh rfl);exact rb
  |25,rfl=>
   have au:=aq ⟨21,.chain⟩ Zh rfl;have cm:rS a 77= nP (nM ⟨n,0,nN⟩):=d.vals 24 (B 24 Zh rfl);obtain⟨g,cap,Z,q2,q3⟩:=d.r18 (d.o21 au);have cf:rS a 72= nS (nM ⟨g,0,nN⟩) (vs.length-1) cap:=Z;have D:=d.blk1 au P;have X:=D.cell 0;have bA:=D.frozen 0;simp only[Qa,Qb]at X;have aj:=d.store25 ag P au;rw[Z]at aj;go_simp;exact p _ _ Zh aj
  |_+26,ho=>exact absurd ho Zh
 .intro a E dd L hd d;obtain⟨bV,V,f1,f2,f3⟩:=d.r9 (hd 9 ZM);obtain⟨bW,ad,g1,g2,g3⟩:=d.r18 (hd 18 ZM);have D:=d.blk2 (hd 25 ZM);rw[f1,g1]at D;simp[Vl.ownBlock]at f3 g3;subst f3 g3;have bz:V=V:=rfl;have ap:Chg I E [n,gk,q]:=d.chg;obtain⟨f4,f5⟩:True/\True:=⟨trivial,trivial⟩;have bQ:=hZ D;have bR:=hZ f2;have bS:=hZ g2;have HR:=UD (Chg w E [n,gk,q]) ((H4.o.none _).trans ap);obtain⟨Q,am,m1,m2,aS,m4,m5,m6⟩:=bk.o E V ad HR.o D g2 f2;have bm:=hZ aS;have m3:DJ w (W::bs) (W::(Q++am)):=(DJ.refl HH.o.nodup).count aS;have aD:W∉Q++am:=(List.nodup_cons.1 m3.nodup).1;have M1:=hZ m1;have M2:=hZ m2;have M3:=hZ m3;have M5:=hZ m5;have B5:=UD (Ac E w.heap.size Ef 44) (B4.o.kept ap le);have W5:=hZ (aU.o.kept HR.o le);have bn:=W5.o.cell 1;have bo:=W5.o.cell 2;have bU:∀j,E.frozen? ⟨W,j,nN⟩=false:=fun j=>W5.o.frozen j;have cy:=W5.o.lt;simp only[Qa,Qb]at bn bo;have e5:=((H4.o.none [n,gk,q]).trans ap);clear d f1 f2 g1 g2 D ap m1 m2 m3 aS m4 m5 m6 hd a2 ag p1 p2 p3 f4 f5 bz e5;obtain⟨fu,Y,rfl⟩:=L.fin2 [54,55,56,57,58,59,60,61,62,63,64,65,66,67,68,69,70,71,72,73,74,75,76,77] Yb;clear L Y
  go_wp2_with(first
   |(go_at_call 130;refine(aX.o _ Q (by exact((HR.o.mono (cs:=[W,n,gk,q]) (fun _ _ A=>Qg _ A)).setCell _ _ Zh).setCell _ _ Zh) (by exact M1.o.chg (cs:=[W]) (((Chg.refl _ [W]).setCell _ _ Zh).setCell _ _ Zh) (fun y r A=>by simp at r;subst r;exact aD (Qe _ A)))).mono ?_;rintro e w6 h5;obtain⟨cC,ys,G,rfl,H,U⟩:=h5.at;have K1:=hZ H;have K2:=hZ U;obtain⟨sa,sc,rfl,_⟩:=H.row.form;clear h5 H U)
   |(refine uO (ds:=(BJ (AC 1 (z++[s]) (Ai u)) (nS sa (AC 1 (z++[s]) (Ai u)).steps.length sc))) (((B5.o.set_other _ _ ms).set_other _ _ ms).kept K2.o) (Dx _ _ _ _) ?_;intro w7 be ab))
  have bN:=HR.o.size;have aC:Chg E w6 [W]:=Chg.trans (b:=_) (((Chg.refl _ [W]).setCell _ _ Zh).setCell _ _ Zh) (K2.o.none _);have bw:Chg w w6 [W,n,gk,q]:=(HR.o.mono (fun _ _ A=>Qg _ A)).trans (aC.mono (fun _ _ A=>by simp at A;simp[A]));have bq:Chg w w7 [W,n,gk,q]:=bw.step ab.o (fun i hi hl=>by simp at hi;omega);have hk:=K1.o.kept (w0:=w) ab.o (fun b hb=>by simp at hb;subst hb;simpa using B5.o.lt) (by simpa using bN)
  have aM:∀y,y∈W::(Q++am)->y<w.heap.size:=fun y r=>by
   have S:=List.count_pos_iff.2 r;have R:=bm.o y;rcases Qh.1 (List.count_pos_iff.1 (Q6 S R))with h|h
   .omega
   .exact AP.lt _ _ _ HH.o.wat.at_ _ h
  refine bodyPost_ret (Hh rfl _ _ w.heap.size 44 (BJ (AC 1 (z++[s]) (Ai u)) (nS sa (AC 1 (z++[s]) (Ai u)).steps.length sc)) _ rfl be.o underlying44 rfl A0) rfl ?_;rw[JH]at HQ aV|-;refine⟨nF tu xu,Q,nF tv xv,am,_,ys,G,rfl,hk, ?_,⟨?_, ?_,aV.o⟩,M3.o,bq.mono (fun _ _ A=> ?_),fun b hb hG=> ?_⟩
  .exact(M1.o.chg aC (fun y r A=>by simp at r;subst r;exact aD (Qe _ A))).chg ab.o (fun y r A=>by simp at r;subst r;exact Nat.lt_irrefl _ (aM _ (Qg _ (Qe _ A))))
  .have e1:=HQ.o.1;have e2:=HQ.o.2;have hb:=((W5.o.set 1 (nI nX (N-su.nodes))).set 2 (nI nX (BB-(su.bytes+s.size))));rw[e1,e2];exact(hb.kept K2.o).kept ab.o le
  .exact(M2.o.chg aC (fun y r A=>by simp at r;subst r;exact aD (Qd _ A))).chg ab.o (fun y r A=>by simp at r;subst r;exact Nat.lt_irrefl _ (aM _ (Qg _ (Qd _ A))))
  .simp at A;rcases A with rfl|rfl|rfl|rfl
   .simp
   .exact gv
   .exact gv
   .exact gv
  .have S:=(hk.new b hG).1;have R:=aM b hb;omega
 .exact a2 _
theorem Xw(W:Nat)(t:Tr)(v e:Vl)(bs:List Nat)(F:Nat->Prop)(a:Option Addr)(c:Nat)(ts:List BY)(w:Wl)(h:UI W t v e bs F (nS a ts.length c) ts w)(g:ts≠[]):
  Cl prog 102 #[nP (nM ⟨W,0,nN⟩),nS a ts.length c] w (EC W e (W::bs) t ts w):=by
 cases b:Ah t ts with
 |none=>
  rw[JE b];exact RJ W t v e bs F a _ c ts w _ h.laid h.wat h.tat b
 |some u=>
  obtain⟨d,s,rfl⟩:∃d s,ts=d++[s]:=⟨ts.dropLast,ts.getLast g,(List.dropLast_concat_getLast g).symm⟩;have j:(d++[s]).length=d.length+1:=Zh;rw[j]at h|-;rw[BW]at b;cases f:Ah t d with
  |none=>rw[f]at b;simp at b
  |some p=>
   rw[f]at b;simp only[Option.bind_some]at b;by_cases i:AX p=true
   .rw[Md i]at b;cases b
   .cases p with
    |list l=>exact RI W t u v e bs F a c d s w l h f b
    |obj ks l=>exact TD W t u v e bs F a c d s w ks l h f b
    |_=>simp[AX]at i
end
section
open Go Go.Shelf Go.RowKit Go.Lib Tree Ptr
variable{ts:List BY}{a bs:List Nat}{ys:List Vl}{W g:Nat}{F G:Nat->Prop}{t:Tr}{b c sv v:Vl}{d w w' w0 w2:Wl}
structure EW(w0 w':Wl)(os:List Bq)(sl:Vl)(xs:List Vl)(G:Nat->Prop):Prop where
 row:As w' sl 4 os.length xs
 inn:SE G sl
 ops:Eh w' G os xs
 own:Ba w' sl 44 4 os.length xs
 new:∀b,G b->w0.heap.size<=b/\b<w'.heap.size
theorem EW.none(w0 w:Wl):EW w0 w [] (nS Option.none 0 0) [] (fun _=>False):=
 ⟨⟨Option.none,0,rfl,Q8 _,rfl,fun i v a=>by simp at a⟩,(fun b o n c e=>by injection e with e;cases e),rfl,Ba.nil _ _ _,fun _ h=>False.elim h⟩
theorem EW.kept{g:Wl}{os:List Bq}{f:Vl}{xs:List Vl}{cs:List Nat}(h:EW g w2 os f xs G)(e:Chg w2 d cs)(i:∀b,b∈cs->¬G b)(j:w0.heap.size<=g.heap.size):EW w0 d os f xs G:=by
 have c:i3 G w2 d:=e.keepsB (fun b a=>(h.new b a).2) i;exact⟨h.row.keptF h.inn c.keeps,h.inn,h.ops.kept c (fun _ h=>h),h.own.keptF h.inn c,fun b a=>by have:=h.new b a;have:=e.size;omega⟩
theorem EW.one{o:Bq}(h:Dr w0 d o sv ys G)(l:w0.heap.size<=d.heap.size)(j:Chg d w2 [])(f:Ac w2 g (BJ o sv) 44)(m:d.heap.size<=g):
  EW w0 w2 [o] (nS (nM ⟨g,0,Option.none⟩) 1 1) (BJ o sv) (fun b=>b=g\/G b):=by
 have q:=j.size;have k:i3 G d w2:=j.keepsB (fun b a=>(h.new b a).2) Zh;refine⟨⟨_,_,rfl,Q8 _,by simp[BJ],fun i v p=>⟨g,0,rfl,by rw[Nat.zero_add,f.cell i];exact p⟩⟩,(fun b o n c e=>by injection e with e;injection e with e;injection e with e;exact .inl e.symm), ?_,Ba.ofBlk f rfl ZM, ?_⟩
 .exact⟨sv,ys,[],Zh,h.row.keptF h.inn k,h.inn.mono (fun b a=> .inr a),h.steps.kept k (fun b a=> .inr a),rfl⟩
 .rintro b (rfl|a)
  .have:=f.lt;exact⟨Q7 l m,f.lt⟩
  .have:=h.new b a;omega
def BC(W:Nat)(h:Vl)(c:List Nat)(r:PV)(w:Wl)(e:Ending)(w':Wl):Prop:=match r with
 | .no n=>AZ n c w e w'
 | .yes f g=>∃v' a d xs G,e= nR d/\EW w w' (g.reverse.map CW.toI) d xs G/\Hu w' W f v' h a/\DJ w c (W::a)/\Chg w w' c/\∀b,b∈W::a->¬G b
theorem Sx.kept{x:Tr}{d e:Vl}{b:List Nat}(h:Sx W t x v d e bs b F c ts w)(a:Chg w w' []):Sx W t x v d e bs b F c ts w':=
 ⟨h.laid.kept a,h.wat.kept a,h.xat.chg a Zh,h.xfine,h.tat.kept a,h.nodup,h.big,h.apart⟩
theorem UI.kept(h:UI W t v c bs F b ts w)(a:Chg w w' []):UI W t v c bs F b ts w':=
 ⟨h.laid.kept a,h.wat.kept a,h.tat.kept a,h.nodup,h.big,h.apart⟩
theorem Hz{n:Nat}:BC W b a (.no n) w=AZ n a w:=rfl
theorem GC{o:Vl}{j:List Nat}{n:Tr}{r:CW}{e k:Wl}{v':Vl}(l:Chg w e [])(c:Dr e w2 r.toI sv ys G)(i:Hu w2 W n v' o a)(s:DJ e j (W::a))(m:Chg e w2 j)(q:∀b,b∈W::a->¬G b)(p:Ac k g (BJ r.toI sv) 44)(t:w2.heap.size<=g)(f:Chg w2 k []):BC W o j (.yes n [r]) w (nR (nS (nM ⟨g,0,nN⟩) 1 1)) k:=by
 have u:=l.size;have v:=m.size;refine⟨v',a,_,_,_,rfl,EW.one (w0:=w) ⟨c.row,c.inn,c.steps,fun b d=>by have:=c.new b d;omega⟩ Zj f p t,i.kept f,s.back u,(l.none _).trans (m.trans (f.none _)),fun b d=> ?_⟩;rintro(rfl|h)
 .rcases Qh.1 d with h|h
  .have:=i.blk.lt;omega
  .have:=AP.lt _ _ _ i.at_ _ h;omega
 .exact q b d h
end
section
open _root_.Go.Proofs.Tryz
open Go Go.Shelf Go.RowKit Go.Lib Tree
variable{l:List Bq}{xs:List Vl}{sv:Vl}{w:Wl}
def iI(w:Wl)(sv:Vl)(l:List Bq):Prop:=∃a c,sv= nS a l.length c/\∀i p,l[i]? =nM p->∃b o sk,a=nM ⟨b,o,nN⟩/\DX w sk p.steps/\∀j v,(BJ p sk)[j]? =nM v->w.cell? ⟨b,o+i*4+j,nN⟩=nM v
theorem iI.kept{w':Wl}(h:iI w sv l)(d:Chg w w' []):iI w' sv l:=by
 obtain⟨a,c,e,h⟩:=h;refine⟨a,c,e,fun i p m=> ?_⟩;obtain⟨b,o,sk,f,g,k⟩:=h i p m;exact⟨b,o,sk,f,g.kept d,fun j v n=>d.keeps (k j v n)⟩
theorem iI.ofR(d:As w sv 4 l.length xs)(k:Cc w l xs):iI w sv l:=by
 obtain⟨a,c,rfl,_⟩:=d.form;refine⟨a,c,rfl,fun i p e=> ?_⟩;have n:0<l.length:=Nat.lt_of_le_of_lt (Nat.zero_le _) (Qc.1 e).1;obtain⟨b,o,rfl,m⟩:=d.base n ZM;obtain⟨sk,ys,f,g,h⟩:=k.get i p e;exact⟨b,o,sk,rfl,SL f g,fun j v q=>by rw[Nat.add_assoc];exact m _ v (h j v q)⟩
theorem iI.ofAt{w0:Wl}{G:Nat->Prop}(h:EW w0 w l sv xs G):iI w sv l:=iI.ofR h.row h.ops.toIn
theorem jY(p:Bq)(c d:Vl)(w:Wl)(a:DX w c p.steps)(i:DX w d p.steps)(l:p.steps.length<=4294967296)(j:∀s∈p.steps,s.keys.length<=4294967296):
  Cl prog 12 #[nA (BJ p c).toArray,nA (BJ p d).toArray] w (BU true w):=by
 have g:=UD (∀b,Chg w b []->Cl prog 19 #[c,d,.func (.func 21) #[] #[]] b (BU true b)) fun b m=>Rf _ _ _ b (a.kept m) (i.kept m) l j;obtain⟨h,c1,rfl,_⟩:=a;obtain⟨o,q,rfl,_⟩:=i;obtain⟨f,k⟩:=Ue p.steps.length;rw[<-k]at g|-;have r:=UD (Ac ((w.alloc (nC (BJ p (nS h f c1)).toArray 44)).alloc (nC (BJ p (nS o f q)).toArray 44)) w.heap.size (BJ p (nS h f c1)) 44) ((Ac.new w _ _).alloc _);clear l k j;obtain⟨u,pa,t,v⟩:=p;unfold BJ at*;dsimp only at*;go_enter func12,ntmps12;go_wp2_with((go_at_call 19;refine(g.o _ ru).mono ?_;rintro e x ⟨rfl,a⟩;have n:=hZ a;clear a));go_ret;exact⟨rfl,ct cR n.o⟩
theorem lj(l:List Bq)(I J:Vl)(w:Wl)(S:iI w I l)(T:iI w J l)(U:l.length<=4294967296)(C:∀p∈l,p.steps.length<=4294967296/\∀s∈p.steps,s.keys.length<=4294967296):
  Cl prog 11 #[I,J,.func (.func 12) #[] #[]] w (BU true w):=by
 obtain⟨a1,c1,rfl,y⟩:=S;obtain⟨a2,Q,rfl,z⟩:=T;have N:=hZ y;have O:=hZ z;have t:=hZ C;obtain⟨n,m⟩:=Ue l.length;have ab:((n:Int) !=(n:Int))=false:=Zh;have M:=hZ m;rw[<-m]at U|-;clear y z C m;go_enter func11,ntmps11;go_wp2_with fail;go_loopw [17] (fun r wr=>∃i:Nat,i<=n/\r= nI nX i/\Chg w wr []) (fun r _=>n-(intOf r).toNat)
 case atStart=>exact⟨0,Zj,rfl,Chg.refl _ _⟩
 case round=>
  obtain⟨i,hi,rfl,B⟩:=hrel;have a:=hZ B;clear B;by_cases aa:i<n
  .obtain⟨p,f⟩:∃s,l[i]? =nM s:=⟨_,Q9 (by have:=M.o;omega)⟩;obtain⟨b,o,sk,rfl,F,D⟩:=N.o i p f;obtain⟨u,Z,K,rfl,G,E⟩:=O.o i p f;have k:=UD (∀g,Chg wr g []->Cl prog 12 #[nA (BJ p sk).toArray,nA (BJ p K).toArray] g (BU true g)) fun g h=>jY p sk K g (F.kept (a.o.trans h)) (G.kept (a.o.trans h)) (t.o p (Qi f)).1 (t.o p (Qi f)).2;obtain⟨V,X,rfl,_⟩:=F;obtain⟨W,Y,rfl,_⟩:=G;have c:∀j v,(BJ p (nS V p.steps.length X))[j]? =nM v->wr.cell? ⟨b,o+i*4+j,nN⟩=nM v:=fun j v q=>a.o.keeps (D j v q);have d:∀j v,(BJ p (nS W p.steps.length Y))[j]? =nM v->wr.cell? ⟨u,Z+i*4+j,nN⟩=nM v:=fun j v q=>a.o.keeps (E j v q);have P:=c 0 _ rfl;have c1:=c 1 _ rfl;have Q:=c 2 _ rfl;have c3:=c 3 _ rfl;have x:=d 0 _ rfl;have d1:=d 1 _ rfl;have d2:=d 2 _ rfl;have R:=d 3 _ rfl;rw[Nat.add_zero]at P x;have lb:u<wr.heap.size:=World.block_lt_of_cell? wr _ x;obtain⟨sl,H⟩:=Ue p.steps.length;rw[<-H]at k c3 R;clear f D E c d H;obtain⟨ki,pa,fr,st⟩:=p;unfold BJ at k;dsimp only at*;go_wp2_with((go_at_call 12;refine(k.o _ ru).mono ?_;rintro e w3 ⟨rfl,A⟩;have L:=UD (Chg wr w3 []) (ct cR A);clear A));go_roundw
   case rel=>exact⟨i+1,Zj,by go_num,Chg.trans (b:=_) a.o L.o⟩
   case measure=>simp[intOf];omega
  .go_wp2_with fail;go_ret;exact⟨rfl,a.o⟩
end
section
open _root_.Go.Proofs.Tryz
open Go Go.Shelf Go.RowKit Go.Lib Tree Ptr
variable{p:Prop}{v:Vl}{w w':Wl}
theorem r0(h:p:=by
 go_enter func76,ntmps76
 go_wp2_with(first
  |(go_at_call 101;refine(g.o _ ru).mono ?_;rintro e w2 ⟨l,h⟩;unfold By at l;subst l;have o:=UD (Chg w w2 (W::(d++bs))) (ct cR h);clear h))
 exact⟨rfl,rfl,o.o⟩):p:=h
theorem YG(W:Nat)(t x:Tr)(v j n:Vl)(bs d:List Nat)(F:Nat->Prop)(a:Option Addr)(c:Nat)(ts:List BY)(k:Int)(p f:BY)(sv N:Vl)(w:Wl)(h:Sx W t x v j n bs d F (nS a ts.length c) ts w):
  Cl prog 76 #[nP (nM ⟨W,0,nN⟩),nA #[nI nX k,nG p,nG f,sv,nS a ts.length c,N,n]] w (BC W j (W::(d++bs)) (Ga t ts x []) w):=by
 have g:=UD (∀b,Chg w b []->Cl prog 101 #[nP (nM ⟨W,0,nN⟩),nS a ts.length c,n] b (Cq W j (W::(d++bs)) t x ts b)) fun b K=>Xo W t x v j n bs d F a c ts b (h.kept K);obtain⟨S,T,rfl⟩:=h.xat.iface;clear h;unfold Ga;by_cases i:EN t ts≠0
 .rw[Qr i,Hz];rw[show Cq W j (W::(d++bs)) t (x:=x) ts=fun b=>AZ (EN t ts) (W::(d++bs)) b from funext fun b=>LG rfl i]at g;exact r0
 .rw[Qs i];have i:EN t ts=0:=by simpa using i
  unfold Kj;by_cases m:(Ag (At t ts x)).within=true
  .rw[Qr m];rw[show Cq W j (W::(d++bs)) t (x:=x) ts=fun b=>ET W j (W::(d++bs)) (At t ts x) (Dd t ts).toI b from funext fun b=>LS i m]at g;obtain⟨r,u⟩:=Ue (Dd t ts);obtain⟨R,y⟩:=Ue (At t ts x);rw[<-u,<-y]at g|-;obtain⟨P,s⟩:=Ue r.toI;rw[<-s]at g;clear u y m i;go_enter func76,ntmps76
   go_wp2_with(first
    |(go_at_call 101;refine(g.o _ ru).mono ?_;rintro e w2 ⟨v',O,Q,ys,G,rfl,q,z,A,B,C⟩;have D:=hZ q;have E:=hZ z;have H:=hZ A;have I:=hZ B;have J:=hZ C;obtain⟨L,M,rfl,_⟩:=q.row.form;clear q z A B C;unfold BJ))
   refine bodyPost_ret (results_tmp rfl _ _ _) rfl ?_;subst s;exact GC ru D.o E.o H.o I.o J.o (Ac.new w2 (BJ r.toI (nS L r.toI.steps.length M)) 44) (Q8 _) ru
  .rw[Qs m,Hz];rw[show Cq W j (W::(d++bs)) t (x:=x) ts=fun b=>AZ 3 (W::(d++bs)) b from funext fun b=>Hv i (by simpa using m)]at g;exact r0
def YN(t:Tr)(path:List BY):PV:=if path=[]then .no 176 else match Ah t path with
 |none=> .no 4
 |some u=> .yes (A8 t path) [⟨1,A6 path,Dz,Ai u⟩]
theorem Tw(W:Nat)(t:Tr)(v j:Vl)(bs:List Nat)(F:Nat->Prop)(a:Option Addr)(c:Nat)(ts:List BY)(k:Int)(p f:BY)(sv ad vx:Vl)(w:Wl)(h:UI W t v j bs F (nS a ts.length c) ts w):
  Cl prog 77 #[nP (nM ⟨W,0,nN⟩),nA #[nI nX k,nG p,nG f,sv,nS a ts.length c,ad,vx]] w (BC W j (W::bs) (YN t ts) w):=by
 unfold YN;by_cases n:ts=[]
 .subst n;rw[Qr rfl,Hz];clear h;go_enter func77,ntmps77
  go_wp2_with(first
   |(go_at_call 30;refine(Bu _ _).mono ?_;rintro e w2 ⟨l,h⟩;unfold By at l;subst l;have s:=UD (Chg w w2 []) (ct cR h);clear h))
  exact⟨rfl,rfl,s.o.none _⟩
 .rw[Qs n];have H:0<ts.length:=List.length_pos_iff.2 n;have aa:ts.length<=65536:=h.tat.ok.many;have g:=UD (∀d,Chg w d []->Cl prog 102 #[nP (nM ⟨W,0,nN⟩),nS a ts.length c] d (EC W j (W::bs) t ts d)) fun d hx=>Xw W t v j bs F a c ts d (h.kept hx) n;obtain⟨m,E⟩:=Ue ts.length;rw[<-E]at g H aa|-;have af:(0:Int)<m:=Zj;have hd:decide (0<m)=true:=by simpa using H
  clear h E n;cases q:Ah t ts with
  |none=>
   rw[Hz];rw[show EC W j (W::bs) t ts=fun d=>AZ 4 (W::bs) d from funext fun d=>JE q]at g;go_enter func77,ntmps77
   go_wp2_with(first
    |(go_at_call_of 30 (Vl.bool true);refine(Bv _ _).mono ?_;rintro e w4 ⟨rfl,rfl⟩)
    |(go_at_call 102;refine(g.o _ ru).mono ?_;rintro e w2 ⟨l,h⟩;unfold By at l;subst l;have s:=UD (Chg w w2 (W::bs)) (ct cR h);clear h))
   exact⟨rfl,rfl,s.o⟩
  |some u=>
   dsimp only;rw[show EC W j (W::bs) t ts=fun d=>T6 W j (W::bs) (A8 t ts) u (AC 1 ts (Ai u)) d from funext fun d=>JF q]at g;obtain⟨r,x⟩:=Ue ((⟨1,A6 ts,Dz,Ai u⟩:CW));obtain⟨t',y⟩:=Ue (A8 t ts);rw[show AC 1 ts (Ai u)=r.toI by rw[x];rfl,<-y]at g;rw[<-x,<-y];obtain⟨N,o⟩:=Ue r.toI;rw[<-o]at g;have T:=hZ o;clear x y q o;go_enter func77,ntmps77
   go_wp2_with(first
    |(go_at_call_of 30 (Vl.bool true);refine(Bv _ _).mono ?_;rintro e w4 ⟨rfl,rfl⟩)
    |(go_at_call 102;refine(g.o _ ru).mono ?_;rintro e w2 ⟨vu,bu,v',ae,ag,ys,G,rfl,z,k2,J,K,L,M⟩;have U:=hZ z;have V:=hZ J;have X:=hZ K;have Y:=hZ L;have Z:=hZ M;obtain⟨O,P,rfl,_⟩:=z.row.form;clear z k2 J K L M)
    |(refine Ae rfl _ _ _ rfl w2.heap.size (BJ N (nS O N.steps.length P)) ZN ZN 44 Ef (by exact Ac.new w2 Ef 44) A0 rfl (Dx _ _ _ _) ?_;intro Q I B D;have R:=hZ B;have S:=hZ D;have A:=hZ I;clear I B D)
    |(refine uN R.o ?_;unfold BJ))
   all_goals(have ab:=A.o;have A:Q.heap.size=w2.heap.size+1:=by simpa using ab)
   have o:=T.o;subst o;refine bodyPost_ret (results_tmp rfl _ _ _) rfl ?_;exact GC ru U.o V.o (X.o.sub Zh) Y.o (fun b C=>Z.o b (by simp at C|-;rcases C with h|h<;>simp[h])) (w2:=w2) (Ac.new Q (BJ r.toI (nS O r.toI.steps.length P)) 44) Zj (Chg.alloc (Chg.step (Chg.alloc cR _) S.o (fun i hi q=>by simp at hi;omega)) _)
def Uq(t:Tr)(path:List BY)(x:Tr):PV:=match Ah t path with
 |none=> .no 4
 |some u=>Kj (AE t path x) [⟨3,A6 path,Dz,Ai u⟩]
theorem ps(h:p:=by
 go_enter func78,ntmps78
 go_wp2_with(first
  |(go_at_call 103;refine(g.o _ ru).mono ?_;rintro e w2 ⟨j,h⟩;unfold By at j;subst j;have o:=UD (Chg w w2 (W::(d++bs))) (ct cR h);clear h))
 exact⟨rfl,rfl,o.o⟩):p:=h
theorem Ry(W:Nat)(t x:Tr)(v i n:Vl)(bs d:List Nat)(F:Nat->Prop)(a:Option Addr)(c:Nat)(ts:List BY)(k:Int)(p f:BY)(sv O:Vl)(w:Wl)(h:Sx W t x v i n bs d F (nS a ts.length c) ts w):
  Cl prog 78 #[nP (nM ⟨W,0,nN⟩),nA #[nI nX k,nG p,nG f,sv,nS a ts.length c,O,n]] w (BC W i (W::(d++bs)) (Uq t ts x) w):=by
 have g:=UD (∀b,Chg w b []->Cl prog 103 #[nP (nM ⟨W,0,nN⟩),nS a ts.length c,n] b (Du W i (W::(d++bs)) t x ts b)) fun b L=>ae W t x v i n bs d F a c ts b (h.kept L);obtain⟨T,U,rfl⟩:=h.xat.iface;clear h;unfold Uq;cases m:Ah t ts with
 |none=>
  rw[Hz];rw[show Du W i (W::(d++bs)) t (x:=x) ts=fun b=>AZ 4 (W::(d++bs)) b from funext fun b=>RP m]at g;exact ps
 |some u=>
  dsimp only;unfold Kj;by_cases l:(Ag (AE t ts x)).within=true
  .rw[Qr l];rw[show Du W i (W::(d++bs)) t (x:=x) ts=fun b=>ET W i (W::(d++bs)) (AE t ts x) (Uu ts u) b from funext fun b=>Pr m l]at g;obtain⟨r,q⟩:=Ue ((⟨3,A6 ts,Dz,Ai u⟩:CW));obtain⟨S,s⟩:=Ue (AE t ts x);rw[show Uu ts u=r.toI by rw[q];rfl,<-s]at g;rw[<-q,<-s];obtain⟨Q,z⟩:=Ue r.toI;rw[<-z]at g;clear q s l m;go_enter func78,ntmps78
   go_wp2_with(first
    |(go_at_call 103;refine(g.o _ ru).mono ?_;rintro e w2 ⟨v',P,R,ys,G,rfl,y,A,B,C,D⟩;have E:=hZ y;have H:=hZ A;have I:=hZ B;have J:=hZ C;have K:=hZ D;obtain⟨M,N,rfl,_⟩:=y.row.form;clear y A B C D;unfold BJ))
   refine bodyPost_ret (results_tmp rfl _ _ _) rfl ?_;subst z;exact GC ru E.o H.o I.o J.o K.o (Ac.new w2 (BJ r.toI (nS M r.toI.steps.length N)) 44) (Q8 _) ru
  .rw[Qs l,Hz];rw[show Du W i (W::(d++bs)) t (x:=x) ts=fun b=>AZ 3 (W::(d++bs)) b from funext fun b=>J0 m (by simpa using l)]at g;exact ps
def PX(V:Nat->Vl->Prop)(w0:Wl)(d:Nat->Bool)(f:Nat->Vl)(w:Wl):Prop:=Chg w0 w []/\∀j,d j=true->V j (f j)
theorem PX.put{V:Nat->Vl->Prop}{w0:Wl}{d:Nat->Bool}{f:Nat->Vl}{j:Nat}(h:PX V w0 d f w)(c:V j v)(b:Chg w w' []):PX V w0 (BA d j) (Eb f j v) w':=
 ⟨h.1.trans b,fun k a=>by
  by_cases e:k=j
  .subst e;rw[Bf];exact c
  .rw[AA f v e];rw[An d e]at a;exact h.2 k a⟩
def M6(t:Tr)(path:List BY)(x:Tr):PV:=match Ah t path with
 |none=> .no 4
 |some u=>if BQ u x=true then .yes t []else .no 173
def OI(W B:Nat)(t x:Tr)(ts:List BY)(a b c:Vl)(j:Nat)(v:Vl):Prop:=match j with
 |0=>v= nP (nM ⟨W,0,nN⟩)
 |1=>v= nP (nM ⟨B,4,nN⟩)
 |2=>v=a
 |3=>v=b/\∃u,Ah t ts=nM u
 |4=>v= nP (nM ⟨B,6,nN⟩)
 |5=>v=c
 |6=>∃u,Ah t ts=nM u/\v= .bool (BQ u x)
 |7=>∃u,Ah t ts=nM u/\BQ u x=true
 |_=>True
theorem QE{W:Nat}{d:Vl}{bs c:List Nat}{t:Tr}(f:Hu w W t v d bs)(e:DJ w c (W::bs))(a:Chg w w' []):BC W d c (.yes t []) w (nR (nS nN 0 0)) w':=
 ⟨v,bs,_,_,_,rfl,EW.none w w',f.kept a,e,a.none _,fun b g h=>h⟩
theorem ov(h:p:=by go_simp;exact l _ _ Zh (b.put (by simp[OI]) cR)):p:=h
theorem hQ(h:p:=by have R:rS a 3= nP (nM ⟨w.heap.size,0,nN⟩):=j.at 3 Yb;exact ov):p:=h
theorem fa(h:p:=by exact⟨j.defers,rfl,((s.o.trans b.1).trans g).none _⟩):p:=h
theorem Xr(W:Nat)(t x:Tr)(v uv C:Vl)(bs E:List Nat)(F:Nat->Prop)(n:Option Addr)(c:Nat)(ts:List BY)(k:Int)(p f:BY)(sv L:Vl)(ag:Av x)(w:Wl)(h:Sx W t x v uv C bs E F (nS n ts.length c) ts w):
  Cl prog 81 #[nP (nM ⟨W,0,nN⟩),nA #[nI nX k,nG p,nG f,sv,nS n ts.length c,L,C]] w (BC W uv (W::(E++bs)) (M6 t ts x) w):=by
 obtain⟨m,V,U⟩:∃m,(∀r,Chg w r []->Cl prog 105 #[nP (nM ⟨W,0,nN⟩),nS n ts.length c] r (fun e w'=>Chg r w' []/\match Ah t ts with
   |none=>e=By 4
   |some u=>e= nR m/\True))/\∀u,Ah t ts=nM u->∀y,Chg w y []->Cl prog 106 #[m,C] y (BU (BQ u x) y):=by
  cases d:Ah t ts with
  |none=>exact⟨.nilIface,fun r J=>(Im h.laid h.wat h.tat d r J).mono fun e w' ⟨g,i⟩=>⟨i,g⟩,fun u e=>by cases e⟩
  |some u=>
   obtain⟨m,bu,rest,Z⟩:=EU h.wat.at_ _ ts _ rfl d;refine⟨m,fun r J=>(Dl h.laid h.wat h.tat Z r J).mono fun e w' ⟨g,i⟩=>⟨i,g,trivial⟩,fun u' e y hy=> ?_⟩;injection e with e;subst e
   have aa:=h.wat.fine.lead d;exact ZB _ u x m C _ _ y (Q8 _) (Ar aa.fits).1 aa.good ag (Z.at_.chg hy Zh) (h.xat.chg hy Zh)
 have P:=hZ V;have ae:=hZ U;clear V U;obtain⟨B,D,ah⟩:=h.xat.iface;subst ah;have HW:=hZ h.wat;have S:DJ w (W::(E++bs)) (W::bs):=(DJ.refl h.nodup).sub Zh;have HO:=hZ S;obtain⟨A,ab⟩:=Ue ts.length;rw[<-ab]at P|-;have ai:=h.xat;clear h S ab ai;go_enter func81,ntmps81;go_wp2_with fail;obtain⟨N,z⟩:=Ue (World.drew (w.alloc (nC #[nI nX k,nG p,nG f,sv,nS n A c,L,nF B D] 78)));have af:=hZ z;have s:Hid (Chg w N []):=by rw[z];exact hZ (((Chg.refl w []).alloc _).drew)
 have O:Hid (Ac N w.heap.size [nI nX k,nG p,nG f,sv,nS n A c,L,nF B D] 78):=by rw[z];exact hZ (Ac.new w _ _).drew
 clear z;refine wp_region_any Yb ?_;change wpAny _ _ _ _ _ _ _ (World.drew _);rw[<-af.o];refine Gy _ (PX (OI W w.heap.size t x ts (nS n A c) m (nF B D)) N) Yb ?_ ?_ _ ?_
 .intro ii op a wa dd I j ak o b K l;match ii,I with
  |0,rfl=>
   have h0:rS a 0= nP (nM ⟨W,0,nN⟩):=j.at 0 Yb;exact ov
  |1,rfl=>
   exact hQ
  |2,rfl=>
   have hp:rS a 6= nP (nM ⟨w.heap.size,4,nN⟩):=b.2 1 (o ⟨1,.data⟩ Zh rfl);have G:=O.o.kept b.1;have H:=G.cell 4;simp only[Qa,Qb]at H;exact ov
  |3,rfl=>
   have h5:rS a 5= nP (nM ⟨W,0,nN⟩):=b.2 0 (o ⟨0,.data⟩ Zh rfl);have h7:rS a 7= nS n A c:=b.2 2 (o ⟨2,.data⟩ Zh rfl);go_simp;go_at_call 105;refine(P.o wa (s.o.trans b.1)).mono ?_;rintro e M ⟨g,i⟩;cases d:Ah t ts with
   |none=>
    rw[d]at i;dsimp only at i;unfold By at i;subst i;unfold M6;rw[d];exact fa
   |some u=>
    rw[d]at i;obtain⟨rfl,R⟩:=i;exact l _ _ Zh (b.put ⟨rfl,u,d⟩ g)
  |4,rfl=>
   exact hQ
  |5,rfl=>
   have hp:rS a 9= nP (nM ⟨w.heap.size,6,nN⟩):=b.2 4 (o ⟨4,.data⟩ Zh rfl);have G:=O.o.kept b.1;have H:=G.cell 6;simp only[Qa,Qb]at H;exact ov
  |6,rfl=>
   obtain⟨h8,u,d⟩:a.tmps.getD 8 undef=m/\∃u,Ah t ts=nM u:=b.2 3 (o ⟨3,.data⟩ Zh rfl);have aj:rS a 10= nF B D:=b.2 5 (o ⟨5,.data⟩ Zh rfl);have HS:=ae.o u d wa (s.o.trans b.1);go_simp;go_at_call 106;refine HS.mono ?_;rintro e M ⟨rfl,g⟩;exact l _ _ Zh (b.put ⟨u,d,rfl⟩ g)
  |7,rfl=>
   obtain⟨u,d,Q⟩:∃u,Ah t ts=nM u/\a.tmps.getD 11 undef= .bool (BQ u x):=b.2 6 (o ⟨6,.data⟩ Zh rfl);cases q:BQ u x with
   |true=>
    rw[q]at Q;go_simp;go_at_call 30;refine(Bv _ _).mono ?_;rintro e M ⟨rfl,rfl⟩;exact l _ _ Zh (b.put ⟨u,d,q⟩ cR)
   |false=>
    rw[q]at Q;go_simp;go_at_call 30;refine(Bu _ _).mono ?_;rintro e M ⟨Y,g⟩;unfold By at Y;subst Y;unfold M6;rw[d];dsimp only;rw[q];exact fa
  |_+8,I=>exact absurd I Zh
 .intro a wR dd j X b;obtain⟨u,d,q⟩:∃u,Ah t ts=nM u/\BQ u x=true:=b.2 7 (X 7 ZM);have HR:=UD (Chg w wR []) (s.o.trans b.1);have T:M6 t ts x= .yes t []:=by unfold M6;rw[d];dsimp only;rw[Qr q]
  have ad:=hZ T;clear b X d q T;obtain⟨fu,hu,rfl⟩:=j.fin2 [5,6,7,8,9,10,11,12] Yb;clear j hu;go_wp2_with fail;refine bodyPost_ret (results_tmp rfl _ _ _) rfl ?_;rw[ad.o];exact QE HW.o HO.o HR.o
 .exact⟨Chg.refl _ _,fun _ e=>by cases e⟩
end
end Go.Proofs.YtamgbmcchhmojaaGreatDoor

/- Part 22 of the proof of coreBase. -/
import Derived.Test.YtkfnkppdhcaeoaaGreatDoorM21
set_option maxRecDepth 100000
set_option maxHeartbeats 32000000
set_option linter.all false
namespace Go.Proofs.YtkfnkppdhcaeoaaGreatDoor
open Go renaming Calls->Cl,TypeId->Ti,Value->Vl,World->Wl
open Go.Value renaming iface->nF,int->nI,pointer->nP,slice->nS,string->nG,tuple->nT
open Go.IntKind renaming i64->nX
open Go.Ending renaming returned->nR
open Option renaming none->nN,some->nM
section
open _root_.Go.Proofs.Tryz
open Go Go.Shelf Go.RowKit Go.Lib Tree Ptr
theorem XS(ks:List BY)(i:Nat)(s:BY)(hi:i<=ks.length):(Ad ks).insertIdx i (nG s)=Ad (ks.insertIdx i s):=by
 rw[AQ _ i (by rw[Ao];exact hi),AQ ks i hi];simp[Ad]
theorem Vj(W:Nat)(t x:Tr)(v uv vx:Vl)(bs Y:List Nat)(F:Nat->Prop)(a:Option Addr)(c:Nat)(p:List BY)(s:BY)(w:Wl)(ks:List BY)(l:List Tr)(h:Sx W t x v uv vx bs Y F (nS a (p.length+1) c) (p++[s]) w)(Z:Ah t p=nM (.obj ks l))(U:C4 ks s=false):
  Cl prog 166 #[nP (nM ⟨W,0,nN⟩),nS a (p.length+1) c,vx] w (Cq W uv (W::(Y++bs)) t x (p++[s]) w):=by
 have ak:=Rk (s:=s) Z;have ax:p++[s]≠[]:=Zh
 have ar:Ah t (p++[s]).dropLast=nM (.obj ks l):=by rw[List.dropLast_concat];exact Z
 obtain⟨b,o,rfl,aJ,a8,aR,b7,cH,a7⟩:=h.tat.last;have lb:=h.tat.lt b aJ;obtain⟨tx,xx,rfl⟩:=h.xat.iface;obtain⟨tv,xv,rfl⟩:=h.wat.at_.iface;obtain⟨vp,bp,rest,hf⟩:=EU h.wat.at_ _ p _ rfl Z;obtain⟨k,sv,sk,vs,fs,rfl,I,ai⟩:=hf.at_.obj;have au:=h.wat.fine.lead Z;have ab:=au.good;have bd:l.length<=65536:=by have:=au.many;simp only[Ab]at this;omega
 have aV:=I.at_.length;have bf:=Ar h.xfine.fits;have az:=Ar h.wat.fine.fits;have ag:=hZ (Dl h.laid h.wat h.tat.init hf);unfold IR at ag
 have aZ:=UD (∀A,Chg w A []->Cl prog 197 #[nP (nM ⟨k,0,nN⟩),nG s] A fun e w'=>∃i:Nat,e= nR (nT #[nI nX i,.bool false])/\Chg A w' []/\Hr ks s i/\i<=ks.length) fun A hx=>by
  have:=Pl ks s k sv sk A (I.blk.kept hx) (I.keys.kept hx) ab.1 b7 Zj;rwa[U]at this
 have a0:∀(w:Wl),(Instr.typeAssert (nF 175 (nP (nM ⟨k,0,nN⟩))) 95 175 true).run prog w= .ok (nT #[nP (nM ⟨k,0,nN⟩),.bool true]) w:=fun _=>Yb
 obtain⟨D,E,rfl,_⟩:=I.lst.form;obtain⟨B,C,rfl,_⟩:=I.keys.form;have lW:=h.wat.blk.lt;have cL:=I.blk.lt;have aw:=AP.lt _ _ _ h.wat.at_
 have ay:∀aW l',Tr.obj ks l= .obj aW l'->C4 aW (AH (p++[s]))=false:=fun aW l' e=>by injection e with e1 e2;subst e1;rw[BE];exact U
 obtain⟨q1,q2,q3⟩:=MR (x:=x) h.wat.fine ax ar (by rw[BE];rfl) ay;have an:=Oy (x:=x) h.wat.fine ax ar (by rw[BE];rfl) ay;have aQ:(p++[s]).length=p.length+1:=Zh
 rw[aQ]at an;unfold NC at q2;rw[BE]at q2
 have ae:=UD (∀A,Chg w A []->Cl prog 195 #[nP (nM ⟨W,0,nN⟩),nS (nM ⟨b,o,nN⟩) (p.length+1) c,nF tx xx,.nilIface,nI nX s.size] A (Dh W (nF tv xv) uv (Ag (At t (p++[s]) x)).nodes (Ag (At t (p++[s]) x)).bytes (p.length+1+(Ag x).depth) A)) fun A hx=>
  Jl W _ uv _ _ x _ _ Y 0 0 _ _ s.size _ _ c A (h.wat.blk.kept hx) (h.xat.chg hx Zh) h.xfine.good h.xfine.fits (.inl ⟨rfl,rfl,rfl⟩) az.1 az.2.1 Zj aR Zj Zj
 have aK:=SM Z U
 have af:∀y,y∈k::((Vl.slice B (Ad ks).length C).ownBlock.toList++(Vl.slice D vs.length E).ownBlock.toList)->y∈bs:=fun y L=>hf.perm.mem_iff.2 (by
  rw[ai];simp only[Qh,Qf]at L|-
  rcases L with h|h|h
  .exact .inl (.inl h)
  .exact .inl (.inr (.inr (.inl h)))
  .exact .inl (.inr (.inl h)))
 have av:∀y,y∈W::k::((Vl.slice B (Ad ks).length C).ownBlock.toList++(Vl.slice D vs.length E).ownBlock.toList)->y∈W::(Y++bs):=fun y L=>by
  rcases Qh.1 L with rfl|L
  .simp
  .simp[af y L]
 have al:W∉k::((Vl.slice B (Ad ks).length C).ownBlock.toList++(Vl.slice D vs.length E).ownBlock.toList):=fun n=>by
  have:=af W n;have hn:=h.nodup;simp[this]at hn
 have aS:∀y,List.count y (k::((Vl.slice B (Ad ks).length C).ownBlock.toList++(Vl.slice D vs.length E).ownBlock.toList))<=1:=fun y=>by
  have S:=List.nodup_iff_count.1 h.nodup y;have Q:=hf.perm.count_eq y;rw[ai]at Q;simp only[List.count_cons,List.count_append]at S Q|-;omega
 have aP:(k::((Vl.slice B (Ad ks).length C).ownBlock.toList++(Vl.slice D vs.length E).ownBlock.toList)).Nodup:=List.nodup_iff_count.2 aS
 have hH:∀u,w.heap.size<=u.heap.size->Nh u k (nS D vs.length E) (nS B (Ad ks).length C):=fun u hz=>by
  have aN:=List.nodup_cons.1 aP;refine⟨Zj,fun g N=> ?_,fun g N=> ?_⟩
  .have n:g∈(Vl.slice B (Ad ks).length C).ownBlock.toList:=by rw[N];simp
   have:=aw g (af g (Qg _ (Qe _ n)));exact⟨Zj,fun e=>aN.1 (by rw[<-e];exact Qe _ n),fun e=>Cd aN.2 n (by rw[e];simp)⟩
  .have n:g∈(Vl.slice D vs.length E).ownBlock.toList:=by rw[N];simp
   have:=aw g (af g (Qg _ (Qd _ n)));exact⟨Zj,fun e=>aN.1 (by rw[<-e];exact Qd _ n)⟩
 have b6:=I.at_.one
 have aC:=UD (∀u,Chg w u [W]->Ac u k [nS D vs.length E,nS B (Ad ks).length C] 177/\AK u (nS B (Ad ks).length C) 9 (Ad ks)/\AK u (nS D vs.length E) 95 vs) fun u hc=>
  ⟨I.blk.kept hc (fun n=>by simp at n;exact al (by rw[<-n];simp)),I.keys.kept hc (fun g N n=>by simp at n;subst n;exact al (Qg _ (Qe _ (by rw[N];simp)))),
   I.lst.kept hc (fun g N n=>by simp at n;subst n;exact al (Qg _ (Qd _ (by rw[N];simp))))⟩
 have aE:=UD (∀i u P R gk cv ck,i<=l.length->Hr ks s i->Chg w u [W]->Chg u P (k::((Vl.slice B (Ad ks).length C).ownBlock.toList++(Vl.slice D vs.length E).ownBlock.toList))->
   Ac P k [nS (nM ⟨R,0,nN⟩) (vs.length+1) cv,nS (nM ⟨gk,0,nN⟩) (ks.length+1) ck] 177->AK P (nS (nM ⟨R,0,nN⟩) (vs.length+1) cv) 95 (vs.insertIdx i (nF tx xx))->AK P (nS (nM ⟨gk,0,nN⟩) (ks.length+1) ck) 9 (Ad (ks.insertIdx i s))->
   ((Vl.slice D vs.length E).ownBlock=nM R\/u.heap.size<=R)->((Vl.slice B (Ad ks).length C).ownBlock=nM gk\/u.heap.size<=gk)->gk≠R->Wd w u P W k (Bz (Cj s x) t p) (nF tv xv) (nS D vs.length E) (nS B (Ad ks).length C) (W::(Y++bs))) fun i u P R gk cv ck hi b3 O k2 k3 k4 k5 k6 k7 k8=>by
  obtain⟨n1,n2,n3,n4⟩:=b3.no U
  have bZ:Cj s x (.obj ks l)= .obj (ks.insertIdx i s) (l.insertIdx i x):=by
   simp only[Cj];rw[Qs (by simp[U])];exact If ab.1 ab.2.1 n1 n2 n3 n4
  exact Yu h.wat hf I ai h.nodup h.xat hi bZ O k2 k3 k4 k5 k6 k7 k8
 have ap:=UD (∀A,Chg w A (W::k::((Vl.slice B (Ad ks).length C).ownBlock.toList++(Vl.slice D vs.length E).ownBlock.toList))->Cl prog 196 #[nI nX 2,nS (nM ⟨b,o,nN⟩) (p.length+1) c,.nilIface] A (Et (AC 2 (p++[s]) []) A)) fun A hx=>by
  have ht:=h.tat.kept hx (fun y L=>h.apart y (av y L));exact ME 2 F _ (p++[s]) A (h.laid.kept hx (fun y L=>h.big y (av y L))) ht.row ht.lt ht.ok ht.small
 have aO:(Ag (At t (p++[s]) x)).within=true->Bt (At t (p++[s]) x):=fun V=>h.wat.fine.add h.xfine h.tat.ok ak V
 have bP:=hZ (E3 t x p s);have bJ:=hZ aK;have HH:=hZ h;have aD:=hZ hH;have a1:=UD (ks.length=l.length/\vs.length=l.length) ⟨ab.2.1,aV⟩;have cG:ks.length<=65536:=by have:=ab.2.1;omega
 have cI:vs.length<=65536:=Zj
 by_cases V:(Ag (At t (p++[s]) x)).within=true
 .rw[LS ak V]
  rw[En (by rw[an];exact V)]at ae;have bN:=hZ (aO V);have be:=Ao ks;obtain⟨aX,aU⟩:=Ue ((Ad ks).length)
  have cc:=hZ (aU.trans be);rw[<-aU]at aE ap aC aD;obtain⟨m,n⟩:=Ue p.length
  rw[<-n]at ag ae ap a8 aR a7|-;clear h ak ax ar hf I ai au ab bd aV bf az n Z aJ ay q1 q2 q3 an aQ aK af av al aS aP hH aw aO V U be aU;go_enter func166,ntmps166
  go_wp2_with(first
   |(go_at_call 170;refine(ag.o _ (by exact cg cR)).mono ?_;rintro e w1 ⟨rfl,S⟩;have H1:=UD (Chg w w1 []) (ct cR S);have B1:=UD (Ac w1 w.heap.size Ef 42) ((Ac.new w Ef 42).kept S);clear S)
   |(go_at_call 197;refine(aZ.o _ (by exact cg H1.o)).mono ?_;rintro e w2 ⟨i,rfl,Q,h3,M⟩;have H2:=UD (Chg w w2 []) (ct H1.o Q);have B2:=UD (Ac w2 w.heap.size Ef 42) (B1.o.kept Q);have bO:=hZ h3;have bc:=M;clear Q h3 M)
   |(go_at_call 195;refine(ae.o _ (by exact cg H2.o)).mono ?_;rintro e u ⟨rfl,h3,M⟩;have bL:=hZ h3;have H3:=UD (Chg w u [W]) (ct ((H2.o.none [W])) M);have B3:=UD (Ac u w.heap.size Ef 42) (B2.o.kept M (by simp;omega));clear h3 M))
  have cF:i<=vs.length:=by have:=a1.o;omega
  obtain⟨X,aA⟩:=Ue u.drew
  have bR:=hZ aA;have aB:Hid (Chg u X []):=by rw[aA];exact hZ ((Chg.refl u []).drew)
  have bH:X.heap.size=u.heap.size:=by rw[aA];rfl
  have bS:=hZ bH;have H4:=UD (Chg w X [W]) (H3.o.trans (aB.o.none _));have bI:=H4.o.size;have ad:=aD.o X bI;obtain⟨p1,p2,p3⟩:=aC.o X H4.o
  have a6:∀f,Lo X k i s (nF tx xx) (nS D vs.length E) (nS B aX C) ks vs (fun _=>false) f X:=fun f=>
   ⟨Chg.refl _ _,(fun _ e=>by cases e),(fun e=>by cases e),(fun e=>by cases e),(fun e=>by cases e),(fun e=>by cases e),fun _=>p1,(fun e=>by cases e),(fun e=>by cases e),fun _=>p2,fun _=>p3,(fun e=>by cases e),(fun e=>by cases e),(fun e=>by cases e),(fun e=>by cases e)⟩
  clear aA bH;refine wp_region_any Yb ?_;change wpAny _ _ _ _ _ _ _ (World.drew _);rw[<-bR.o];refine Gy _ (Lo X k i s (nF tx xx) (nS D vs.length E) (nS B aX C) ks vs) Yb ?_ ?_ _ ?_
  .intro ii op a wa dd j J K r d K q
   match ii,j with
   |0,j=>
    obtain rfl:=Q5 j;have aH:a.tmps.getD 10 undef= nP (nM ⟨k,0,nN⟩):=J.at 10 Yb;go_simp
    exact q _ _ Zh (d.plain ZM ZM ZM ZM ZM ZM (by simp[Ee]) cR)
   |1,j=>
    obtain rfl:=Q5 j;have aH:a.tmps.getD 10 undef= nP (nM ⟨k,0,nN⟩):=J.at 10 Yb;go_simp
    exact q _ _ Zh (d.plain ZM ZM ZM ZM ZM ZM (by simp[Ee]) cR)
   |2,j=>
    obtain rfl:=Q5 j;have aH:a.tmps.getD 10 undef= nP (nM ⟨k,0,nN⟩):=J.at 10 Yb;go_simp
    exact q _ _ Zh (d.plain ZM ZM ZM ZM ZM ZM (by simp[Ee]) cR)
   |3,j=>
    obtain rfl:=Q5 j;have cw:a.tmps.getD 91 undef= nP (nM ⟨k,0,nN⟩):=d.vals 2 (r ⟨2,.data⟩ Zh rfl);go_simp
    exact q _ _ Zh (d.plain ZM ZM ZM ZM ZM ZM (by simp[Ee]) cR)
   |4,j=>
    obtain rfl:=Q5 j;have cx:a.tmps.getD 92 undef= nP (nM ⟨k,0,nN⟩):=d.vals 3 (r ⟨3,.data⟩ Zh rfl);go_simp
    exact q _ _ Zh (d.plain ZM ZM ZM ZM ZM ZM (by simp[Ee]) cR)
   |5,j=>
    obtain rfl:=Q5 j;have cy:a.tmps.getD 93 undef= nP (nM ⟨k,1,nN⟩):=d.vals 4 (r ⟨4,.data⟩ Zh rfl)
    have aG:dd 21=false:=by
     cases e:dd 21 with
     |false=>rfl
     |true=>have aI:=d.o21 e;have h:=d.o9 (d.o18 aI).1;rw[K]at h;cases h
    have H:=d.blk0 aG;have aa:=H.cell 1;simp only[Qa,Qb]at aa;go_simp
    exact q _ _ Zh (d.plain ZM ZM ZM ZM ZM ZM (by simp[Ee]) cR)
   |6,j=>
    obtain rfl:=Q5 j;have bU:a.tmps.getD 11 undef= nI nX i:=J.at 11 Yb;go_simp
    exact q _ _ Zh (d.plain ZM ZM ZM ZM ZM ZM (by simp[Ee]) cR)
   |7,j=>
    obtain rfl:=Q5 j;have h9:a.tmps.getD 9 undef= nG s:=J.at 9 Yb;go_simp
    exact q _ _ Zh (d.plain ZM ZM ZM ZM ZM ZM (by simp[Ee]) cR)
   |8,j=>
    obtain rfl:=Q5 j;have bV:a.tmps.getD 96 undef= nG s:=d.vals 7 (r ⟨7,.data⟩ Zh rfl);have cB:a.tmps[96]?.getD undef= nG s:=by rw[<-Qp];exact bV
    go_simp
    exact q _ _ Zh d.new8
   |9,j=>
    obtain rfl:=Q5 j;have d5:=r ⟨5,.data⟩ Zh rfl;have cz:a.tmps.getD 94 undef= nS B aX C:=d.vals 5 d5;have cA:a.tmps.getD 95 undef= nI nX i:=d.vals 6 (r ⟨6,.data⟩ Zh rfl);obtain⟨B,aL,aM,b0⟩:=d.r8 (r ⟨8,.data⟩ Zh rfl) K;have cC:a.tmps.getD 97 undef= nS (nM ⟨B,0,nN⟩) 1 1:=aL;have bX:=d.keys0 K;go_simp
    go_at_call 198;refine(QS _ (nG s) B i (Ad ks) wa bX aM (fun g N e=>by have:=(ad.lk g N).1;omega) rfl (Gu ks) (by rw[Ao];exact bc) (by rw[Ao];omega)).mono ?_;rintro e w1 ⟨g,ah,rfl,O,k2,k3⟩;rw[Ao]at O|-;rw[show(Ad ks).insertIdx i (nG s)=Ad (ks.insertIdx i s)from XS ks i s bc]at O;exact q _ _ Zh (d.call9 ad K d5 O k2 k3)
   |10,j=>
    obtain rfl:=Q5 j;have aH:a.tmps.getD 10 undef= nP (nM ⟨k,0,nN⟩):=J.at 10 Yb;go_simp
    exact q _ _ Zh (d.plain ZM ZM ZM ZM ZM ZM (by simp[Ee]) cR)
   |11,j=>
    obtain rfl:=Q5 j;have cE:a.tmps.getD 99 undef= nP (nM ⟨k,0,nN⟩):=d.vals 10 (r ⟨10,.data⟩ Zh rfl);go_simp
    exact q _ _ Zh (d.plain ZM ZM ZM ZM ZM ZM (by simp[Ee]) cR)
   |12,j=>
    obtain rfl:=Q5 j;have cd:a.tmps.getD 100 undef= nP (nM ⟨k,0,nN⟩):=d.vals 11 (r ⟨11,.data⟩ Zh rfl);go_simp
    exact q _ _ Zh (d.plain ZM ZM ZM ZM ZM ZM (by simp[Ee]) cR)
   |13,j=>
    obtain rfl:=Q5 j;have ce:a.tmps.getD 101 undef= nP (nM ⟨k,0,nN⟩):=d.vals 12 (r ⟨12,.data⟩ Zh rfl);go_simp
    exact q _ _ Zh (d.plain ZM ZM ZM ZM ZM ZM (by simp[Ee]) cR)
   |14,j=>
    obtain rfl:=Q5 j;have cf:a.tmps.getD 102 undef= nP (nM ⟨k,0,nN⟩):=d.vals 13 (r ⟨13,.data⟩ Zh rfl)
    have aG:dd 21=false:=by
     cases e:dd 21 with
     |false=>rfl
     |true=>have aI:=d.o21 e;have h:=(d.o18 aI).2;rw[K]at h;cases h
    have H:=d.blk0 aG;have aa:=H.cell 0;simp only[Qa,Qb]at aa;go_simp
    exact q _ _ Zh (d.plain ZM ZM ZM ZM ZM ZM (by simp[Ee]) cR)
   |15,j=>
    obtain rfl:=Q5 j;have bU:a.tmps.getD 11 undef= nI nX i:=J.at 11 Yb;go_simp
    exact q _ _ Zh (d.plain ZM ZM ZM ZM ZM ZM (by simp[Ee]) cR)
   |16,j=>
    obtain rfl:=Q5 j;have Q:a.tmps.getD 2 undef= nF tx xx:=J.at 2 Yb;go_simp
    exact q _ _ Zh (d.plain ZM ZM ZM ZM ZM ZM (by simp[Ee]) cR)
   |17,j=>
    obtain rfl:=Q5 j;have bT:a.tmps.getD 105 undef= nF tx xx:=d.vals 16 (r ⟨16,.data⟩ Zh rfl);have cj:a.tmps[105]?.getD undef= nF tx xx:=by rw[<-Qp];exact bT
    go_simp
    exact q _ _ Zh d.new17
   |18,j=>
    obtain rfl:=Q5 j;have a3:=r ⟨14,.data⟩ Zh rfl;have d9:=r ⟨9,.chain⟩ Zh rfl;have ch:a.tmps.getD 103 undef= nS D vs.length E:=d.vals 14 a3;have ci:a.tmps.getD 104 undef= nI nX i:=d.vals 15 (r ⟨15,.data⟩ Zh rfl);obtain⟨B,aL,aM,b0⟩:=d.r17 (r ⟨17,.data⟩ Zh rfl) K;have cl:a.tmps.getD 106 undef= nS (nM ⟨B,0,nN⟩) 1 1:=aL;have bY:=d.items0 K;go_simp
    go_at_call 199;refine(N5 _ (nF tx xx) B i vs wa bY aM (fun g N e=>by have:=(ad.lv g N).1;omega) rfl b6 Zj Zj).mono ?_;rintro e w1 ⟨g,ah,rfl,O,k2,k3⟩;exact q _ _ Zh (d.call18 ad K d9 a3 O k2 k3)
   |19,j=>
    obtain rfl:=Q5 j;have cs:a.tmps.getD 89 undef= nP (nM ⟨k,0,nN⟩):=d.vals 0 (r ⟨0,.data⟩ Zh rfl);go_simp
    exact q _ _ Zh (d.plain ZM ZM ZM ZM ZM ZM (by simp[Ee]) cR)
   |20,j=>
    obtain rfl:=Q5 j;have cn:a.tmps.getD 108 undef= nP (nM ⟨k,0,nN⟩):=d.vals 19 (r ⟨19,.data⟩ Zh rfl);go_simp
    exact q _ _ Zh (d.plain ZM ZM ZM ZM ZM ZM (by simp[Ee]) cR)
   |21,j=>
    obtain rfl:=Q5 j;have a4:=r ⟨18,.chain⟩ Zh rfl;have co:a.tmps.getD 109 undef= nP (nM ⟨k,1,nN⟩):=d.vals 20 (r ⟨20,.data⟩ Zh rfl);obtain⟨g,ah,q1,q2,q3⟩:=d.r9 (d.o18 a4).1;have cD:a.tmps.getD 98 undef= nS (nM ⟨g,0,nN⟩) (ks.length+1) ah:=q1;have H:=d.blk0 K;have aa:=H.cell 1;have b2:=H.frozen 1;simp only[Qa,Qb]at aa;have am:=d.store21 ad K a4;rw[q1]at am;go_simp
    exact q _ _ Zh am
   |22,j=>
    obtain rfl:=Q5 j;have cu:a.tmps.getD 90 undef= nP (nM ⟨k,0,nN⟩):=d.vals 1 (r ⟨1,.data⟩ Zh rfl);go_simp
    exact q _ _ Zh (d.plain ZM ZM ZM ZM ZM ZM (by simp[Ee]) cR)
   |23,j=>
    obtain rfl:=Q5 j;have cp:a.tmps.getD 110 undef= nP (nM ⟨k,0,nN⟩):=d.vals 22 (r ⟨22,.data⟩ Zh rfl);go_simp
    exact q _ _ Zh (d.plain ZM ZM ZM ZM ZM ZM (by simp[Ee]) cR)
   |24,j=>
    obtain rfl:=Q5 j;have cq:a.tmps.getD 111 undef= nP (nM ⟨k,0,nN⟩):=d.vals 23 (r ⟨23,.data⟩ Zh rfl);go_simp
    exact q _ _ Zh (d.plain ZM ZM ZM ZM ZM ZM (by simp[Ee]) cR)
   |25,j=>
    obtain rfl:=Q5 j;have aF:=r ⟨21,.chain⟩ Zh rfl;have cr:a.tmps.getD 112 undef= nP (nM ⟨k,0,nN⟩):=d.vals 24 (r ⟨24,.data⟩ Zh rfl);obtain⟨g,ah,q1,q2,q3,q4⟩:=d.r18 (d.o21 aF);have cm:a.tmps.getD 107 undef= nS (nM ⟨g,0,nN⟩) (vs.length+1) ah:=q1;have H:=d.blk1 aF K;have aa:=H.cell 0;have b2:=H.frozen 0;simp only[Qa,Qb]at aa;have am:=d.store25 ad K aF;rw[q1]at am;go_simp
    exact q _ _ Zh am
   |_+26,j=>exact absurd j Zh
  .intro a P dd J hd d
   obtain⟨gk,ck,f1,f2,f3⟩:=d.r9 (hd 9 ZM);obtain⟨R,cv,g1,g2,g3,g4⟩:=d.r18 (hd 18 ZM);have H:=d.blk2 (hd 25 ZM);rw[f1]at H g4;rw[g1]at H;have bb:gk≠R:=fun e=>g4 (by rw[e];rfl)
   have aq:=d.chg;obtain⟨a2,s1,s2,s3,s4,s5⟩:=aE.o i X P R gk cv ck (by have:=a1.o;omega) bO.o H4.o aq H g2 f2 g3 f3 bb
   have aT:∀y,y∈W::(Y++bs)->y<w.heap.size:=fun y L=>by
    rcases Qh.1 L with h|h
    .omega
    .rcases Qf.1 h with h|h
     .exact AP.lt _ _ _ HH.o.xat _ h
     .exact AP.lt _ _ _ HH.o.wat.at_ _ h
   have aY:=UD (Ac P w.heap.size Ef 42) ((B3.o.kept aB.o).kept aq (fun n=>by have:=aT _ (s4 _ (Qg _ n));omega));have bM:=UD (Ac P W [nF tv xv,nI nX (Ag (At t (p++[s]) x)).nodes,nI nX (Ag (At t (p++[s]) x)).bytes,uv] 98) ((bL.o.kept aB.o).kept aq s5);have S1:=hZ s1;have S2:=hZ s2;have S3:=hZ s3;have S4:=hZ s4;have bQ:=hZ aT;clear d f1 f2 f3 g1 g2 g3 g4 H bb aq s1 s2 s3 s4 s5 hd aT a6 ad p1 p2 p3;have aj:=J.form' [89,90,91,92,93,94,95,96,97,98,99,100,101,102,103,104,105,106,107,108,109,110,111,112] Yb;have a9:=J.defers;obtain⟨z,df⟩:=a;clear J
   dsimp only at aj a9
   simp only[List.foldl_cons,List.foldl_nil]at aj;obtain⟨u89,bv⟩:=Ue (z.getD 89 undef)
   obtain⟨u90,bw⟩:=Ue (z.getD 90 undef)
   obtain⟨u91,bx⟩:=Ue (z.getD 91 undef)
   obtain⟨u92,bz⟩:=Ue (z.getD 92 undef)
   obtain⟨u93,bA⟩:=Ue (z.getD 93 undef)
   obtain⟨u94,bB⟩:=Ue (z.getD 94 undef)
   obtain⟨u95,bC⟩:=Ue (z.getD 95 undef)
   obtain⟨u96,bD⟩:=Ue (z.getD 96 undef)
   obtain⟨u97,bE⟩:=Ue (z.getD 97 undef)
   obtain⟨u98,bF⟩:=Ue (z.getD 98 undef)
   obtain⟨u99,bG⟩:=Ue (z.getD 99 undef)
   obtain⟨u100,bg⟩:=Ue (z.getD 100 undef)
   obtain⟨u101,bh⟩:=Ue (z.getD 101 undef)
   obtain⟨u102,bi⟩:=Ue (z.getD 102 undef)
   obtain⟨u103,bj⟩:=Ue (z.getD 103 undef)
   obtain⟨u104,bk⟩:=Ue (z.getD 104 undef)
   obtain⟨u105,bl⟩:=Ue (z.getD 105 undef)
   obtain⟨u106,bm⟩:=Ue (z.getD 106 undef)
   obtain⟨u107,bn⟩:=Ue (z.getD 107 undef)
   obtain⟨u108,bo⟩:=Ue (z.getD 108 undef)
   obtain⟨u109,bq⟩:=Ue (z.getD 109 undef)
   obtain⟨u110,br⟩:=Ue (z.getD 110 undef)
   obtain⟨u111,bt⟩:=Ue (z.getD 111 undef)
   obtain⟨u112,bu⟩:=Ue (z.getD 112 undef)
   rw[<-bv,<-bw,<-bx,<-bz,<-bA,<-bB,<-bC,<-bD,<-bE,<-bF,<-bG,<-bg,<-bh,<-bi,<-bj,<-bk,<-bl,<-bm,<-bn,<-bo,<-bq,<-br,<-bt,<-bu]at aj;clear bv bw bx bz bA bB bC bD bE bF bG bg bh bi bj bk bl bm bn bo bq br bt bu;simp only[List.setIfInBounds_toArray,List.set_cons_zero,List.set_cons_succ]at aj;subst aj;subst a9
   go_wp2_with(first
    |(go_at_call 196;refine(ap.o _ S3.o).mono ?_;rintro e ca h5;obtain⟨cM,ys,G,rfl,O,k2⟩:=h5.at;have K1:=hZ O;have K2:=hZ k2;obtain⟨sa,sc,rfl,_⟩:=O.row.form;clear h5 O k2)
    |(refine Ae rfl _ _ _ rfl w.heap.size (BJ (AC 2 (p++[s]) []) (nS sa (AC 2 (p++[s]) []).steps.length sc)) ZN ZN 42 Ef (by exact aY.o.kept K2.o) A0 rfl (Dx _ _ _ _) ?_;intro cb b8 a5 ba;have bK:=hZ a5;have ao:=hZ ba;clear b8 a5 ba))
   have b9:w.heap.size<P.heap.size:=aY.o.lt;have b1:Chg w ca (W::(Y++bs)):=(S3.o.mono (fun y _ n=>S4.o y n)).trans (K2.o.none _);have bW:Chg w cb (W::(Y++bs)):=b1.step ao.o (fun i hi Z=>by simp at hi;omega);have U:=K1.o.kept (w0:=w) ao.o (fun b T=>by simp at T;subst T;exact b9) Zj;have b4:=AP.lt _ _ _ S1.o;refine bodyPost_ret (Bi rfl _ _ w.heap.size 42 (BJ (AC 2 (p++[s]) []) (nS sa (AC 2 (p++[s]) []).steps.length sc)) _ rfl bK.o underlying42 rfl A0) rfl ?_;rw[bJ.o];have cJ:=B3.o.lt;have cK:=bS.o
   have b5:w.heap.size∉a2:=fun n=>by
    rcases S2.o.come _ (Qg _ n)with h|h
    .have:=bQ.o _ h;omega
    .omega
   refine⟨nF tv xv,a2,_,ys,G,rfl,U,⟨?_, ?_,bN.o⟩,S2.o.back bI,bW,fun b T hG=> ?_⟩
   .exact(bM.o.kept K2.o).kept ao.o (by simp;omega)
   .rw[bP.o]
    exact(S1.o.chg K2.o Zh).chg ao.o (fun b T n=>by simp at T;subst T;exact b5 n)
   .have S:=(K1.o.new b hG).1
    rcases Qh.1 T with rfl|T
    .omega
    .have:=b4 b T;omega
  .exact a6 _
 .rw[Hv ak (by simpa using V)]
  rw[DO (by rw[an];simpa using V)]at ae;obtain⟨m,n⟩:=Ue p.length
  rw[<-n]at ag ae a8 aR a7|-;clear h ak ax ar hf I ai au ab bd aV bf az n Z aJ ay q1 q2 q3 an aQ aK af av al aS aP hH aw aO V U aE ap aC aD HH;go_enter func166,ntmps166
  go_wp2_with(first
   |(go_at_call 170;refine(ag.o _ (by exact cg cR)).mono ?_;rintro e w1 ⟨rfl,S⟩;have H1:=UD (Chg w w1 []) (ct cR S);clear S)
   |(go_at_call 197;refine(aZ.o _ (by exact cg H1.o)).mono ?_;rintro e w2 ⟨i,rfl,Q,h3,M⟩;have H2:=UD (Chg w w2 []) (ct H1.o Q);clear Q h3 M)
   |(go_at_call 195;refine(ae.o _ (by exact cg H2.o)).mono ?_;rintro e u ⟨he,M⟩;unfold By at he;subst he;have H3:=UD (Chg w u []) (ct H2.o M);clear M))
  exact⟨rfl,rfl,H3.o.none _⟩
theorem Vb{p:Tr}(h:AX p=true)(s:BY):Gg s p=5:=by
 cases p<;>first|rfl|simp[AX]at h
theorem Xo(W:Nat)(t x:Tr)(v e d:Vl)(bs g:List Nat)(F:Nat->Prop)(a:Option Addr)(c:Nat)(ts:List BY)(w:Wl)(h:Sx W t x v e d bs g F (nS a ts.length c) ts w):
  Cl prog 166 #[nP (nM ⟨W,0,nN⟩),nS a ts.length c,d] w (Cq W e (W::(g++bs)) t x ts w):=by
 by_cases j:ts=[]
 .subst j
  exact Tv W t x v e d bs g F a c w h
 .obtain⟨b,s,rfl⟩:∃b s,ts=b++[s]:=⟨ts.dropLast,ts.getLast j,(List.dropLast_concat_getLast j).symm⟩
  have o:(b++[s]).length=b.length+1:=Zh
  rw[o]at h|-;have n:∃q y,d= nF q y:=h.xat.iface
  cases f:Ah t b with
  |none=>
   have i:EN t (b++[s])=4:=by rw[Iz,f]
   rw[LG i ZM];exact Tu W t v e d bs F a c b s w _ h.laid h.wat h.tat f n
  |some p=>
   by_cases k:AX p=true
   .have i:EN t (b++[s])=5:=by rw[Iz,f];exact Vb k s
    rw[LG i ZM];exact Ts W t p v e d bs F a c b s w _ h.laid h.wat h.tat f k n
   .cases p with
    |list l=>exact Tt W t x v e d bs g F a c b s w l h f
    |obj ks l=>
     cases m:C4 ks s with
     |true=>exact Vk W t x v e d bs g F a c b s w ks l h f m
     |false=>exact Vj W t x v e d bs g F a c b s w ks l h f m
    |_=>simp[AX]at k
def Uu(ts:List BY)(u:Tr):Bq:=AC 3 ts (Ai u)
def Du(W:Nat)(b:Vl)(a:List Nat)(t x:Tr)(ts:List BY)(w:Wl)(e:Ending)(w':Wl):Prop:=match Ah t ts with
 |none=>AZ 4 a w e w'
 |some u=>if(Ag (AE t ts x)).within=true then ET W b a (AE t ts x) (Uu ts u) w e w' else AZ 3 a w e w'
theorem RP{W:Nat}{b:Vl}{a:List Nat}{t x:Tr}{ts:List BY}{w:Wl}(h:Ah t ts=nN):Du W b a t x ts w=AZ 4 a w:=by
 funext e w';unfold Du;rw[h]
theorem J0{W:Nat}{c:Vl}{a:List Nat}{t x u:Tr}{ts:List BY}{w:Wl}(h:Ah t ts=nM u)(b:(Ag (AE t ts x)).within=false):Du W c a t x ts w=AZ 3 a w:=by
 funext e w';unfold Du;rw[h];simp only;rw[Qs (by simp[b])]
theorem Pr{W:Nat}{b:Vl}{a:List Nat}{t x u:Tr}{ts:List BY}{w:Wl}(h:Ah t ts=nM u)(c:(Ag (AE t ts x)).within=true):Du W b a t x ts w=ET W b a (AE t ts x) (Uu ts u) w:=by
 funext e w';unfold Du;rw[h];simp only;rw[Qr c]
theorem Im{W:Nat}{t:Tr}{v d:Vl}{bs:List Nat}{F:Nat->Prop}{c:Vl}{ts:List BY}{w:Wl}(f:Br w)(i:Hu w W t v d bs)(g:JC w F c ts)(j:Ah t ts=nN):
  ∀a,Chg w a []->Cl prog 170 #[nP (nM ⟨W,0,nN⟩),c] a (fun e w'=>e=By 4/\Chg a w' []):=fun a h=>by
 have hi:=g.kept h;have b:=i.kept h;have:=LI W t v _ _ d bs F _ ts a (f.kept h) b.blk b.at_ b.fine hi.row hi.ok hi.small;rw[Jw j]at this;exact this.mono fun e w' h=>⟨h.2,h.1⟩
theorem Tz(W:Nat)(t:Tr)(v r k:Vl)(bs:List Nat)(F:Nat->Prop)(a:Option Addr)(n c:Nat)(ts:List BY)(w:Wl)(p:List Nat)(f:Br w)(h:Hu w W t v r bs)(g:JC w F (nS a n c) ts)(j:Ah t ts=nN)(o:∃q x,k= nF q x):
  Cl prog 168 #[nP (nM ⟨W,0,nN⟩),nS a n c,k] w (AZ 4 p w):=by
 obtain⟨u,y,rfl⟩:=o;have m:=hZ (Im f h g j);clear f h g j;go_enter func168,ntmps168
 go_wp2_with(first
  |(go_at_call 170;refine(m.o _ (by exact ot)).mono ?_;rintro e s ⟨i,d⟩;unfold By at i;subst i;have l:=UD (Chg w s []) (Chg.trans (b:=_) (by exact ot) d);clear d))
 exact⟨rfl,rfl,l.o.none _⟩
theorem TA(W:Nat)(t x:Tr)(v C vx:Vl)(bs u:List Nat)(F:Nat->Prop)(a:Option Addr)(c:Nat)(w:Wl)(h:Sx W t x v C vx bs u F (nS a 0 c) [] w):
  Cl prog 168 #[nP (nM ⟨W,0,nN⟩),nS a 0 c,vx] w (Du W C (W::(u++bs)) t x [] w):=by
 have z:Ah t []=nM t:=rfl;have y:AE t [] x=x:=rfl;have aj:=h.wat.blk.lt;obtain⟨L,N,rfl⟩:=h.xat.iface;obtain⟨K,M,rfl⟩:=h.wat.at_.iface;have V:=Ar h.xfine.fits;have A:=Ar h.wat.fine.fits;have P:=hZ (Dl h.laid h.wat h.tat (Ir.here h.wat.at_))
 have s:=UD (∀g,Chg w g []->Cl prog 195 #[nP (nM ⟨W,0,nN⟩),nS a 0 c,nF L N,nF K M,nI nX 0] g (Dh W (nF K M) C (Ag x).nodes (Ag x).bytes (0+(Ag x).depth) g)) fun g l=>
  Jl W _ C _ _ x _ _ u _ _ (Ag x).nodes (Ag x).bytes 0 a 0 c g (h.wat.blk.kept l) (h.xat.chg l Zh) h.xfine.good h.xfine.fits (h.wat.was.kept l) A.1 A.2.1 Zj Zj Zj Zj
 have I:W∉bs:=fun n=>by have:=h.nodup;simp[n]at this
 have ad:=UD (∀g,Chg w g [W]->Cl prog 196 #[nI nX 3,nS a 0 c,nF K M] g (Et (AC 3 [] (Ai t)) g)) fun g l=>by
  have B:=h.tat.kept l (fun b d=>by simp at d;subst d;exact h.apart b Zh);exact DE 3 F _ [] t _ bs g (h.laid.kept l (fun b d=>by simp at d;subst d;exact h.big b Zh)) B.row B.lt B.ok B.small h.wat.fine (h.wat.at_.chg l (fun b d=>by simp at d;subst d;exact I))
 have m:=hZ h;rw[Nat.zero_add]at s;by_cases o:(Ag x).within=true
 .rw[Pr z (by rw[y];exact o)]
  rw[En (by rw[E6];exact o)]at s;have al:W≠w.heap.size:=Zj
  clear h z y V A o I;go_enter func168,ntmps168
  go_wp2_with(first
   |(go_at_call 170;refine(P.o _ (by exact ot)).mono ?_;rintro e D ⟨rfl,f⟩;have r:=UD (Chg w D []) (Chg.trans (b:=_) (by exact ot) f);have B9:=UD (Ac D w.heap.size Ef 42) ((Ac.new w Ef 42).kept f);clear f)
   |(go_at_call 195;refine(s.o _ (by(have:=r.o;exact oq))).mono ?_;rintro e p ⟨rfl,f,k⟩;have aa:=hZ f;have q:=UD (Chg w p [W]) (Chg.trans (b:=_) (by(have:=(r.o.none [W]);exact oq)) k);have O:=UD (Ac p w.heap.size Ef 42) (B9.o.kept k (by simp;omega));have d0:=f.cell 0;have f0:∀j,p.frozen? ⟨W,j,nN⟩=false:=fun j=>f.frozen j;have am:=f.lt;simp only[Qa]at d0;clear f k)
   |(go_at_call 196;refine(ad.o _ (by(have:=q.o;exact oq))).mono ?_;rintro e w2 k;obtain⟨sv,ys,G,rfl,J,Y⟩:=k.at;have Q:=hZ J;have H:=hZ Y;obtain⟨Z,sc,rfl,_⟩:=J.row.form;clear k J Y)
   |(refine Ae rfl _ _ _ rfl w.heap.size (BJ (AC 3 [] (Ai t)) (nS Z (AC 3 [] (Ai t)).steps.length sc)) ZN ZN 42 Ef (by exact(O.o.set_other _ _ (by simp only;omega)).kept H.o) A0 rfl (Dx _ _ _ _) ?_;intro w6 X S U;have ai:=hZ X;have ab:=hZ S;have E:=hZ U;clear X S U))
  have ah:=q.o.size;have af:Chg w w2 [W]:=Chg.trans (b:=_) (q.o.setCell _ _ Zh) (H.o.none _);have R:Chg w w6 [W]:=af.step E.o (fun i hi hl=>by simp at hi;omega);have ae:W∉u:=fun n=>by have:=m.o.nodup;simp[n]at this
  have ag:=AP.lt _ _ _ m.o.xat;have ak:=m.o.wat.blk.lt;have hk:=Q.o.kept (w0:=w) E.o (fun b d=>by simp at d;subst d;simpa using O.o.lt) (by simpa using ah)
  refine bodyPost_ret (Bi rfl _ _ w.heap.size 42 (BJ (AC 3 [] (Ai t)) (nS Z (AC 3 [] (Ai t)).steps.length sc)) _ rfl ab.o underlying42 rfl A0) rfl
   ⟨nF L N,u,_,ys,G,rfl,hk,⟨?_,m.o.xat.chg R (fun b d=>by simp at d;subst d;exact ae),m.o.xfine⟩, ?_,R.mono (fun _ _ n=>by simp at n;simp[n]),fun b d hG=> ?_⟩
  .exact(((aa.o.set 0 (nF L N)).kept H.o).kept E.o (by simp;omega))
  .exact(DJ.refl m.o.nodup).sub (List.Sublist.cons_cons _ (List.sublist_append_left _ _))
  .have f:=(Q.o.new b hG).1
   have k:p.heap.size<=b:=by simpa using f
   rcases Qh.1 d with rfl|d
   .omega
   .have:=ag b d;omega
 .rw[J0 z (by rw[y];simpa using o)]
  rw[DO (by rw[E6];simpa using o)]at s;clear h z y V A o I;go_enter func168,ntmps168
  go_wp2_with(first
   |(go_at_call 170;refine(P.o _ (by exact ot)).mono ?_;rintro e D ⟨rfl,f⟩;have r:=UD (Chg w D []) (Chg.trans (b:=_) (by exact ot) f);clear f)
   |(go_at_call 195;refine(s.o _ (by(have:=r.o;exact oq))).mono ?_;rintro e p ⟨T,k⟩;unfold By at T;subst T;have q:=UD (Chg w p []) (Chg.trans (b:=_) (by(have:=r.o;exact oq)) k);clear k))
  exact⟨rfl,rfl,q.o.none _⟩
theorem Uk{ks:List BY}{l:List Tr}{s:BY}{u:Tr}(h:Dy (.obj ks l) s=nM u):C4 ks s=true/\l[A5 ks s]? =nM u:=by
 unfold Dy at h;simp only[D6]at h;by_cases a:C4 ks s=true
 .rw[Qr a]at h;exact⟨a,h⟩
 .rw[Qs a]at h;cases h
theorem Rd{l:List Tr}{s:BY}{u:Tr}(h:Dy (.list l) s=nM u):∃i,bL s l.length=nM i/\l[i]? =nM u:=by
 unfold Dy at h;simp only[D6]at h
 cases hi:bL s l.length with
 |none=>rw[hi]at h;cases h
 |some i=>rw[hi]at h;exact⟨i,rfl,h⟩
theorem AP.head{w:Wl}{t:Tr}{b g n c:Nat}{j:Ti}{bs:List Nat}(h:AP w t (nF j (nP (nM ⟨b,0,nN⟩))) bs)(hi:Ab t≠[])(d:w.cell? ⟨b,0,nN⟩=nM (nS (nM ⟨g,0,nN⟩) n c)):b∈bs/\g∈bs:=by
 cases t with
 |list l=>
  obtain⟨f,sv,vs,i,e,a,rfl⟩:=h.list;unfold Jn at e
  injection e with _ e
  injection e with e
  injection e with e
  injection e with e
  subst e;have:=a.blk.cell 0;rw[d]at this;simp only[Qa]at this
  injection this with this
  subst this;simp[Vl.ownBlock]
 |obj ks l=>
  obtain⟨f,sv,sk,vs,i,e,a,rfl⟩:=h.obj;unfold IR at e
  injection e with _ e
  injection e with e
  injection e with e
  injection e with e
  subst e;have:=a.blk.cell 0;rw[d]at this;simp only[Qa]at this
  injection this with this
  subst this;simp[Vl.ownBlock]
 |_=>exact absurd rfl hi
theorem Dv.same{w w':Wl}:∀(ts:List BY) (t:Tr) (v k:Vl) (bs:List Nat),AP w t v bs->Ca bs w w'->Dv w t v ts k->Dv w' t v ts k
 |[],_,_,_,_,_,_,h=>h
 |s::r,t,v,k,bs,x,m,h=>by
  simp only[Dv]at h|-;obtain⟨i,u,b,g,n,c,z,H,o,j,B,l,p,C⟩:=h;obtain⟨I,L,M,J,O,A,rest,N,d,a,f,q⟩:=Fx x o j;subst B
  injection d with K d
  injection d with d
  injection d with d
  injection d with d
  subst d;rw[l]at a
  injection a with a
  injection a with a
  injection a with a
  injection a with a
  subst a;rw[p]at f
  injection f with f
  subst f;have F:Ab t≠[]:=by intro e;rw[e]at j;simp at j
  obtain⟨D,E⟩:=x.head F l;exact⟨i,u,b,g,n,c,z,H,o,j,rfl,(World.cell?_of_block (w:=w) (m b D)).trans l,(World.cell?_of_block (w:=w) (m g E)).trans p,Dv.same r u z k A q.at_ (m.mono fun y G=>q.perm.mem_iff.2 (Qe _ G)) C⟩
theorem bG(W:Nat)(t x u:Tr)(v X vx:Vl)(bs Z:List Nat)(F:Nat->Prop)(a:Option Addr)(c:Nat)(d:List BY)(s:BY)(w:Wl)(ks:List BY)(l:List Tr)(h:Sx W t x v X vx bs Z F (nS a (d.length+1) c) (d++[s]) w)(M:Ah t d=nM (.obj ks l))(am:Dy (.obj ks l) s=nM u):
  Cl prog 168 #[nP (nM ⟨W,0,nN⟩),nS a (d.length+1) c,vx] w (Du W X (W::(Z++bs)) t x (d++[s]) w):=by
 obtain⟨I,V⟩:=Uk am;have aG:d++[s]≠[]:=Zh
 have N:Ah t (d++[s])=nM u:=by rw[BW,M];exact am
 have az:=(T9 (x:=x) (ts:=d++[s]) h.wat.fine aG (by rw[List.dropLast_concat];exact M) (by rw[BE];exact I)).1;obtain⟨b,o,rfl,ak,ax,aF,aT,a9,aP⟩:=h.tat.last;have lb:=h.tat.lt b ak;obtain⟨tx,xx,rfl⟩:=h.xat.iface;obtain⟨tv,xv,rfl⟩:=h.wat.at_.iface;obtain⟨vp,bp,rest,H⟩:=EU h.wat.at_ _ d _ rfl M;obtain⟨K,sv,sk,vs,fs,rfl,z,L⟩:=H.at_.obj;have ad:=(h.wat.fine.lead M).good;have aI:=Dk (Cp.1 I);have ar:=S0 (s:=s) z ad.1 aT a9 I;obtain⟨pi,U⟩:=Ue (A5 ks s)
 rw[<-U]at ar aI V;have aS:pi<l.length:=by have:=ad.2.1;omega
 obtain⟨vu,bu,ag,ae,av⟩:=z.at_.get V;obtain⟨_,_,_,_,aX,a1,r2,_,B,q6,q7,aC⟩:=Fx H.at_ (s:=s) (by simp only[D6];rw[Qr I,<-U]) V;have aD:=H.snoc aC;obtain⟨tu,xu,rfl⟩:=ae.iface;have aV:=z.at_.length
 obtain⟨g,c',rfl,be⟩:∃g c',sv= nS (nM ⟨g,0,nN⟩) vs.length c'/\vs.length<=c':=by
  rcases z.lst.one with⟨_,e⟩|h
  .rw[e]at ag;simp at ag
  .exact h
 have ba:aX= nF tu xu:=by
  unfold IR at B
  injection B with _ B
  injection B with B
  injection B with B
  injection B with B
  subst B;have C:=z.blk.cell 0;simp only[Qa]at C;rw[q6]at C
  injection C with C
  injection C with C
  injection C with C
  injection C with C
  subst C;have e7:=z.lst.cell rfl pi _ ag;rw[q7]at e7;injection e7
 subst ba;have ab:=h.wat.fine.lead N;have aU:=Ar h.xfine.fits;have an:=Ar h.wat.fine.fits;obtain⟨q1,q2,q3⟩:=J4 (x:=x) h.wat.fine N;have af:=KC (x:=x) h.wat.fine N;have aJ:KT w (nF tu xu) (Ag u).nodes (Ag u).bytes:= .inr ⟨u,bu,ae,ab.good,ab.fits,rfl,rfl⟩;have aE:(d++[s]).length=d.length+1:=Zh
 rw[aE]at af
 have Q:=UD (∀q,Chg w q []->Cl prog 195 #[nP (nM ⟨W,0,nN⟩),nS (nM ⟨b,o,nN⟩) (d.length+1) c,nF tx xx,nF tu xu,nI nX 0] q (Dh W (nF tv xv) X (Ag (AE t (d++[s]) x)).nodes (Ag (AE t (d++[s]) x)).bytes (d.length+1+(Ag x).depth) q)) fun q E=>
  Jl W _ X _ _ x _ _ Z _ _ _ _ 0 _ _ c q (h.wat.blk.kept E) (h.xat.chg E Zh) h.xfine.good h.xfine.fits (aJ.kept E) an.1 an.2.1 Zj aF q1 Zj
 have ai:=hZ (Dl h.laid h.wat h.tat aD)
 have aw:∀y,y∈bu->y≠W/\y≠g:=fun y k=>by
  have bb:=av y k;have ay:=List.nodup_iff_count.1 h.nodup y;have aH:=H.perm.count_eq y;rw[L]at aH;have r:=List.count_pos_iff.2 bb;simp only[List.count_cons,List.count_append,Vl.ownBlock,Option.toList_some,List.count_nil]at ay aH
  constructor
  .intro e;subst e;simp at ay;omega
  .intro e;subst e;simp at ay aH;omega
 have al:∀y,y∈bp->y∈bs:=fun y k=>H.perm.mem_iff.2 (Qe _ k)
 have aR:g∈bs:=al g (by rw[L];simp[Vl.ownBlock])
 have aa:W∉bp:=fun f=>by
  have:=al W f;have hn:=h.nodup;simp[this]at hn
 have T:∀y,y∈[W,g]->y∈W::(Z++bs):=fun y k=>by simp at k;rcases k with rfl|rfl;simp;simp[aR]
 have aq:=UD (∀q,Chg w q [W,g]->Cl prog 196 #[nI nX 3,nS (nM ⟨b,o,nN⟩) (d.length+1) c,nF tu xu] q (Et (AC 3 (d++[s]) (Ai u)) q)) fun q E=>by
  have ht:=h.tat.kept E (fun y k=>h.apart y (T y k));exact DE 3 F _ (d++[s]) u _ bu q (h.laid.kept E (fun y k=>h.big y (T y k))) ht.row ht.lt ht.ok ht.small ab (ae.chg E (fun y k f=>by simp at k;have:=aw y f;omega))
 have c1:w.cell? ⟨K,0,nN⟩=nM (nS (nM ⟨g,0,nN⟩) vs.length c'):=z.blk.cell 0
 have au:=UD (∀n,Chg w n [W]->∃aj,AP (n.setCell ⟨g,pi,nN⟩ (nF tx xx)) (Bz (Cj s x) t d) (nF tv xv) aj/\DJ n (W::(Z++bs)) (W::aj)/\(∃v0,n.cell? ⟨g,pi,nN⟩=nM v0)/\(∀j,n.frozen? ⟨g,j,nN⟩=false)/\g∈bs/\g∉rest) fun n S=>
  Uv h.wat H z L h.nodup h.xat V I U S
 have HH:=hZ h;have aO:K≠W:=fun e=>aa (by rw[L,<-e];simp)
 have a5:g≠W:=fun e=>aa (by rw[L,<-e];simp[Vl.ownBlock])
 have lW:=h.wat.blk.lt;have lg:=z.lst.lt (g:=g) rfl;have bd:=z.blk.lt;have bf:pi<vs.length:=Zj
 have ap:=UD (∀n,Ac n W [nF tv xv,nI nX (Ag (AE t (d++[s]) x)).nodes,nI nX (Ag (AE t (d++[s]) x)).bytes,X] 98->Chg w n [W]->Cl prog 201 #[nP (nM ⟨W,0,nN⟩),nS (nM ⟨b,o,nN⟩) d.length c] n (fun e w'=>e= nR (nT #[IR K,.bool true])/\Chg n w' [])) fun n D S=>by
  have hi:=h.tat.init.kept S (fun y k=>h.apart y (T y (by simp at k;simp[k])));have a7:AP n t (nF tv xv) bs:=h.wat.at_.chg S (fun y k f=>by simp at k;subst k;have hn:=h.nodup;simp[f]at hn);have a8:Ca bs w n:=S.sameB (AP.lt _ _ _ h.wat.at_) (fun y k f=>by simp at f;subst f;have hn:=h.nodup;simp[k]at hn);have:=LJ W t _ _ _ X bs F _ d n (h.laid.kept S (fun y k=>h.big y (T y (by simp at k;simp[k])))) D a7 h.wat.fine hi.row hi.ok hi.small Zj;rw[Iv M]at this;refine this.mono fun e w' ⟨r,aX,a1,bi,h2,R⟩=>⟨?_,r⟩
  rw[h2,(Dv.same d t _ _ bs h.wat.at_ a8 H.reach).inj R.reach]
 have aM:=UD (∀q,Chg w q [W]->Cl prog 197 #[nP (nM ⟨K,0,nN⟩),nG s] q (fun e w'=>e= nR (nT #[nI nX pi,.bool true])/\Chg q w' [])) fun q E=>
  (Pl ks s K _ sk q (z.blk.kept E (fun f=>by simp at f;exact aO f)) (z.keys.kept E (fun y k f=>by simp at f;subst f;exact aa (by rw[L];simp[k]))) ad.1 aT Zj).mono fun e w' ⟨i,r,h2,R,_⟩=>⟨by rw[r,I,(R.yes I).1,U],h2⟩
 have a3:b≠W:=fun e=>h.apart W Zh (by rw[<-e];exact ak)
 have a0:∀(w:Wl),(Instr.typeAssert (nF 175 (nP (nM ⟨K,0,nN⟩))) 95 175 true).run prog w= .ok (nT #[nP (nM ⟨K,0,nN⟩),.bool true]) w:=fun _=>Yb
 have aA:Bz (Cj s x) t d=AE t (d++[s]) x:=by rw[<-E3,az]
 rw[aA]at au;have aB:(Ag (AE t (d++[s]) x)).within=true->Bt (AE t (d++[s]) x):=fun J=>h.wat.fine.set h.xfine N J
 by_cases J:(Ag (AE t (d++[s]) x)).within=true
 .rw[Pr N J]
  rw[En (by rw[af];exact J)]at Q;have aZ:=hZ (aB J);obtain⟨m,f⟩:=Ue d.length
  rw[<-f]at ai Q aq ap ax aF aP|-;clear h aG az N H z ad aI ar U V ag ae ab aU an q1 q2 q3 af aJ aE f J L av aw aV aS aB ak M I am aC aD al aa T aA B q6 q7;go_enter func168,ntmps168
  go_wp2_with(first
   |(go_at_call 170;refine(ai.o _ (by exact cg cR)).mono ?_;rintro e w1 ⟨rfl,r⟩;have Y:=UD (Chg w w1 []) (ct cR r);have B1:=UD (Ac w1 w.heap.size Ef 42) ((Ac.new w Ef 42).kept r);clear r)
   |(go_at_call 195;refine(Q.o _ (by exact cg Y.o)).mono ?_;rintro e n ⟨rfl,R,A⟩;have aL:=hZ R;have O:=UD (Chg w n [W]) (ct ((Y.o.none [W])) A);have B3:=UD (Ac n w.heap.size Ef 42) (B1.o.kept A (by simp;omega));have e0:=(O.o.cell (p:=⟨b,o+m,nN⟩) lb (by simpa using a3)).trans ax;have bg:=Q6 lb O.o.size;clear R A)
   |(go_at_call 201;refine(ap.o n aL.o O.o).mono ?_;unfold IR;rintro e w4 ⟨rfl,A⟩;have aK:=hZ A;have H4:=UD (Chg w w4 [W]) (O.o.trans (A.none _));have e1:=aK.o.keeps e0;clear A)
   |(go_at_call 197;refine(aM.o _ (by exact cg H4.o)).mono ?_;rintro e w5 ⟨rfl,A⟩;have ao:=UD (Chg n w5 []) (aK.o.trans (ct cR A));have P:=UD (Chg w w5 [W]) (O.o.trans (ao.o.none _));have B5:=UD (Ac w5 w.heap.size Ef 42) (B3.o.kept ao.o);have d1:=(P.o.cell (p:=⟨K,0,nN⟩) bd (by simpa using aO)).trans c1;obtain⟨aj,s1,s2,⟨v0,s3⟩,s4,_⟩:=au.o w5 P.o;have S1:=hZ s1;have S2:=hZ s2;have bh:=Q6 lg P.o.size;clear A s1 s2)
   |(go_at_call 196;refine(aq.o _ (by exact(P.o.mono (fun _ _ f=>by simp at f;simp[f])).setCell _ _ Zh)).mono ?_;rintro e w6 h5;obtain⟨sv,ys,G,rfl,k1,k2⟩:=h5.at;have K1:=hZ k1;have K2:=hZ k2;obtain⟨sa,sc,rfl,_⟩:=k1.row.form;clear h5 k1 k2)
   |(refine Ae rfl _ _ _ rfl w.heap.size (BJ (AC 3 (d++[s]) (Ai u)) (nS sa (AC 3 (d++[s]) (Ai u)).steps.length sc)) ZN ZN 42 Ef (by exact(B5.o.set_other _ _ (by simp only;omega)).kept K2.o) A0 rfl (Dx _ _ _ _) ?_;intro w7 bc aN aQ;have aY:=hZ aN;have ah:=hZ aQ;clear bc aN aQ))
  have aW:=P.o.size;have a4:Chg w w6 [W,g]:=Chg.trans (b:=_) ((P.o.mono (fun _ _ f=>by simp at f;simp[f])).setCell _ _ Zh) (K2.o.none _);have a2:Chg w w7 [W,g]:=a4.step ah.o (fun i hi M=>by simp at hi;omega);have hk:=K1.o.kept (w0:=w) ah.o (fun b D=>by simp at D;subst D;simpa using B5.o.lt) (by simpa using aW);have a6:=AP.lt _ _ _ S1.o;refine bodyPost_ret (Bi rfl _ _ w.heap.size 42 (BJ (AC 3 (d++[s]) (Ai u)) (nS sa (AC 3 (d++[s]) (Ai u)).steps.length sc)) _ rfl aY.o underlying42 rfl A0) rfl ?_;refine⟨nF tv xv,aj,_,ys,G,rfl,hk,⟨?_, ?_,aZ.o⟩,S2.o.back aW,a2.mono (fun _ _ f=> ?_),fun b D hG=> ?_⟩
  .exact(((aL.o.kept ao.o).set_other _ _ (by simp only;exact a5)).kept K2.o).kept ah.o (by simp;omega)
  .exact(S1.o.chg K2.o Zh).chg ah.o (fun b D f=>by
    simp at D;subst D
    rcases S2.o.come _ (Qg _ f)with h|h
    .rcases Qh.1 h with h|h
     .omega
     .rcases Qf.1 h with h|h
      .have:=AP.lt _ _ _ HH.o.xat _ h;omega
      .have:=AP.lt _ _ _ HH.o.wat.at_ _ h;omega
    .have:=B5.o.lt;omega)
  .simp at f
   rcases f with rfl|rfl
   .simp
   .simp[aR]
  .have r:=(K1.o.new b hG).1
   have h2:w5.heap.size<=b:=by simpa using r
   rcases Qh.1 D with rfl|D
   .omega
   .have:=a6 b D;simp at this;omega
 .rw[J0 N (by simpa using J)]
  rw[DO (by rw[af];simpa using J)]at Q;obtain⟨m,f⟩:=Ue d.length
  rw[<-f]at ai Q ax aF aP|-;clear h aG az N H z ad aI ar U V ag ae ab aU an q1 q2 q3 af aJ aE f J L av aw aV aS aB ak M I am aC aD al aa T aA B q6 q7 aq ap au aM;go_enter func168,ntmps168
  go_wp2_with(first
   |(go_at_call 170;refine(ai.o _ (by exact cg cR)).mono ?_;rintro e w1 ⟨rfl,r⟩;have Y:=UD (Chg w w1 []) (ct cR r);have B1:=UD (Ac w1 w.heap.size Ef 42) ((Ac.new w Ef 42).kept r);clear r)
   |(go_at_call 195;refine(Q.o _ (by exact cg Y.o)).mono ?_;rintro e n ⟨he,A⟩;unfold By at he;subst he;have O:=UD (Chg w n []) (ct Y.o A);clear A))
  exact⟨rfl,rfl,O.o.none _⟩
end
end Go.Proofs.YtkfnkppdhcaeoaaGreatDoor

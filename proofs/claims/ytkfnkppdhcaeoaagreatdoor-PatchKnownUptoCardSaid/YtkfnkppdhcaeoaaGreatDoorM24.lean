/- Part 24 of the proof of coreBase. -/
import Derived.Test.YtkfnkppdhcaeoaaGreatDoorM23
set_option maxRecDepth 100000
set_option maxHeartbeats 32000000
set_option linter.all false
namespace Go.Proofs.YtkfnkppdhcaeoaaGreatDoor
open Go renaming Calls->Cl,Value->Vl,World->Wl
open Go.Value renaming agg->nA,iface->nF,int->nI,pointer->nP,slice->nS,string->nG,tuple->nT
open Go.IntKind renaming i64->nX
open Go.Ending renaming returned->nR
open Go.Obj renaming cells->nC
open Option renaming none->nN,some->nM
section
open _root_.Go.Proofs.Tryz
open Go Go.Shelf Go.RowKit Go.Lib Tree Ptr
theorem TD(W:Nat)(t u:Tr)(v uv:Vl)(bs:List Nat)(F:Nat->Prop)(a:Option Addr)(c:Nat)(B:List BY)(s:BY)(w:Wl)(ks:List BY)(l:List Tr)(h:UI W t v uv bs F (nS a (B.length+1) c) (B++[s]) w)(hl:Ah t B=nM (.obj ks l))(aK:Dy (.obj ks l) s=nM u):
  Cl prog 167 #[nP (nM ⟨W,0,nN⟩),nS a (B.length+1) c] w (EC W uv (W::bs) t (B++[s]) w):=by
 obtain⟨hh,hu⟩:=Uk aK;have aL:B++[s]≠[]:=Zh
 have ai:Ah t (B++[s])=nM u:=by rw[BW,hl];exact aK
 obtain⟨b,o,rfl,aB,a5,b8,cb,cc,b0⟩:=h.tat.last;have lb:=h.tat.lt b aB;obtain⟨tv,xv,rfl⟩:=h.wat.at_.iface;obtain⟨vp,bp,rest,S⟩:=EU h.wat.at_ _ B _ rfl hl;obtain⟨n,sv,sk,vs,fs,rfl,D,aa⟩:=S.at_.obj;have aG:=h.wat.fine.lead hl;have ag:=aG.good;have b7:l.length<=65536:=by have:=aG.many;simp only[Ab]at this;omega
 have bd:=Dk (Cp.1 hh);have aC:=S0 (s:=s) D ag.1 cb cc hh
 have hcut:CT s (.obj ks l)= .obj (ks.eraseIdx (A5 ks s)) (l.eraseIdx (A5 ks s)):=by
  unfold CT;simp only[D6,Qr hh]
 have aO:D6 (.obj ks l) s=nM (A5 ks s):=by simp only[D6];rw[Qr hh]
 obtain⟨pi,bc⟩:=Ue (A5 ks s)
 rw[<-bc]at aC bd hu hcut aO;have bM:=hZ aC;have ca:pi<l.length:=by have:=ag.2.1;omega
 obtain⟨vu,bu,al,aP,bY⟩:=D.at_.get hu;obtain⟨_,_,_,_,cj,co,r2,_,M,q6,q7,a9⟩:=Fx S.at_ (s:=s) aO hu;have ba:=S.snoc a9;obtain⟨tu,xu,rfl⟩:=aP.iface;have cd:=D.at_.length
 obtain⟨q,cv,rfl,cZ⟩:∃g c',sv= nS (nM ⟨g,0,nN⟩) vs.length c'/\vs.length<=c':=by
  rcases D.lst.one with⟨_,e⟩|h
  .rw[e]at al;simp at al
  .exact h
 obtain⟨gk,ck,rfl,cY⟩:∃g c',sk= nS (nM ⟨g,0,nN⟩) ks.length c'/\ks.length<=c':=by
  rcases D.keys.one with⟨_,e⟩|h
  .have:=Ao ks;rw[e]at this;simp at this;omega
  .rw[Ao]at h;exact h
 have ce:cj= nF tu xu:=by
  unfold IR at M
  injection M with _ M
  injection M with M
  injection M with M
  injection M with M
  subst M;have L:=D.blk.cell 0;simp only[Qa]at L;rw[q6]at L
  injection L with L
  injection L with L
  injection L with L
  injection L with L
  subst L;have e7:=D.lst.cell rfl pi _ al;rw[q7]at e7;injection e7
 subst ce;have af:=h.wat.fine.lead ai;have be:=Ar h.wat.fine.fits;have bf:=Ar af.fits;obtain⟨X,q2⟩:=R9 h.wat.fine aL ai (by rw[List.dropLast_concat];exact hl);rw[BE]at q2;have q2:(Ag (A8 t (B++[s]))).bytes+(Ag u).bytes+s.size=(Ag t).bytes:=q2;have a8:Bt (A8 t (B++[s])):=h.wat.fine.cut aL ai;have b6:(B++[s]).length=B.length+1:=Zh
 have aZ:=hZ (Dl h.laid h.wat h.tat ba);have ar:=hZ (Ud h.laid h.wat h.tat.init S);unfold IR at ar;have aX:=UD (∀N,Chg w N []->JB (nF tu xu) (Ag u) N) fun N hx=>MD _ u _ bu N (Q8 _) af.good af.fits (aP.chg hx Zh)
 have ap:∀y,y∈bp->y∈bs:=fun y z=>S.perm.mem_iff.2 (Qe _ z)
 have aI:q∈bs:=ap q (by rw[aa];simp[Vl.ownBlock]);have aH:gk∈bs:=ap gk (by rw[aa];simp[Vl.ownBlock]);have aF:n∈bs:=ap n (by rw[aa];simp);have ao:W∉bs:=(List.nodup_cons.1 h.nodup).1
 have a6:∀y,List.count y [n,gk,q]<=1:=fun y=>by
  have R:=List.nodup_iff_count.1 h.nodup y;have Q:=S.perm.count_eq y;rw[aa]at Q;simp only[List.count_cons,List.count_append,Vl.ownBlock,Option.toList_some,List.count_nil]at R Q|-;omega
 have aj:[n,gk,q].Nodup:=List.nodup_iff_count.2 a6
 have aM:gk≠n/\q≠n/\gk≠q:=by
  simp at aj;exact⟨fun e=>aj.1.1 e.symm,fun e=>aj.1.2 e.symm,aj.2⟩
 have aJ:∀y,y∈[W,n,gk,q]->y∈W::bs:=fun y z=>by simp at z;rcases z with rfl|rfl|rfl|rfl;simp;simp[aF];simp[aH];simp[aI]
 have aY:=UD (∀N P,Chg w N [W,n,gk,q]->AP N u (nF tu xu) P->Cl prog 196 #[nI nX 1,nS (nM ⟨b,o,nN⟩) (B.length+1) c,nF tu xu] N (Et (AC 1 (B++[s]) (Ai u)) N)) fun N P hx b9=>by
  have ht:=h.tat.kept hx (fun y z=>h.apart y (aJ y z));exact DE 1 F _ (B++[s]) u _ P N (h.laid.kept hx (fun y z=>h.big y (aJ y z))) ht.row ht.lt ht.ok ht.small af b9
 have b3:∀y∈vs,∃t x,y= nF t x:=Ih D.at_
 have b5:pi<vs.length:=Zj
 have b4:pi<ks.length:=by have:=ag.2.1;omega
 have c1:vs.length<=65536:=Zj
 have c0:ks.length<=65536:=by have:=ag.2.1;omega
 have bQ:=UD (∀H U ad,Chg w H [n,gk,q]->Ac H n [nS (nM ⟨q,0,nN⟩) (vs.length-1) ad,nS (nM ⟨gk,0,nN⟩) (ks.length-1) U] 177->AK H (nS (nM ⟨q,0,nN⟩) (vs.length-1) ad) 95 (vs.eraseIdx pi)->AK H (nS (nM ⟨gk,0,nN⟩) (ks.length-1) U) 9 (Ad (ks.eraseIdx pi))->OP w H W (Bz (CT s) t B) u (nF tv xv) (nF tu xu) bs [n,gk,q]) fun H U ad J T k3 k4=>
  Wp h.wat S D aa h.nodup hu al hcut J T k3 k4
 have cX:b≠W:=fun e=>h.apart W Zh (by rw[<-e];exact aB)
 have cU:W≠n:=fun e=>ao (by rw[e];exact aF)
 have cV:W≠gk:=fun e=>ao (by rw[e];exact aH)
 have cW:W≠q:=fun e=>ao (by rw[e];exact aI)
 have lW:=h.wat.blk.lt;have c3:=D.blk.lt;have c5:=D.lst.lt (g:=q) rfl;have c4:=D.keys.lt (g:=gk) rfl;have a0:∀(w:Wl),(Instr.typeAssert (nF 175 (nP (nM ⟨n,0,nN⟩))) 95 175 true).run prog w= .ok (nT #[nP (nM ⟨n,0,nN⟩),.bool true]) w:=fun _=>Yb
 have HH:=hZ h;have aV:=hZ h.wat.blk;have bN:=hZ D.blk;have bO:=hZ D.keys;have bP:=hZ D.lst;have aW:=hZ a8;have Z:=UD (((Ag (A8 t (B++[s]))).nodes:Int)=(Ag t).nodes-(Ag u).nodes/\((Ag (A8 t (B++[s]))).bytes:Int)=(Ag t).bytes-((Ag u).bytes+s.size)) ⟨Zj,Zj⟩
 have bL:=UD (∀K,w.heap.size<=K.heap.size->Nh K n (nS (nM ⟨q,0,nN⟩) vs.length cv) (nS (nM ⟨gk,0,nN⟩) ks.length ck)) fun K hz=>⟨Zj,fun g hg=>by
  simp[Vl.ownBlock]at hg;subst hg
  exact⟨Zj,aM.1,by simp[Vl.ownBlock];exact fun e=>aM.2.2 e.symm⟩,fun g hg=>by
  simp[Vl.ownBlock]at hg;subst hg
  exact⟨Zj,aM.2.1⟩⟩
 rw[JF ai];obtain⟨m,C⟩:=Ue B.length
 rw[<-C]at aZ ar aY a5 b8 b0|-;obtain⟨N,hN⟩:=Ue ((Ag t).nodes)
 obtain⟨BB,aA⟩:=Ue ((Ag t).bytes)
 obtain⟨su,aQ⟩:=Ue (Ag u)
 rw[<-hN,<-aA]at aV be;rw[<-hN,<-aA,<-aQ]at Z;rw[<-aQ]at aX bf;obtain⟨t1,t2,t3⟩:=be;obtain⟨s1,s2,s3⟩:=bf;have t4:su.nodes<=N:=by have:=Z.o.1;omega
 have t5:su.bytes+s.size<=BB:=by have:=Z.o.2;omega
 clear h aL ai S D bc hu al aP af X q2 b6 C aa bY cd ca bd aB hl aK a9 ba ap aJ M q6 q7 a8 hcut hN aA aQ b7 ao aI aH aF hh aG ag aC aO a6 aj;go_enter func167,ntmps167
 go_wp2_with(first
  |(go_at_call 170;refine(aZ.o _ (by exact cg cR)).mono ?_;rintro e w1 ⟨rfl,R⟩;have H1:=UD (Chg w w1 []) (ct cR R);have B1:=UD (Ac w1 w.heap.size Ef 42) ((Ac.new w Ef 42).kept R);obtain⟨f,args,m1,J⟩:=aX.o w1 H1.o;have HM:=hZ m1;have HC:=hZ J;clear R m1 J)
  |(refine Am rfl _ _ _ rfl _ rfl f args HM.o _ HC.o ?_;rintro e w2 ⟨rfl,Q⟩;refine⟨_,rfl, ?_⟩;have H2:=UD (Chg w w2 []) (H1.o.trans Q);have B2:=UD (Ac w2 w.heap.size Ef 42) (B1.o.kept Q);unfold Jv;have e0:=H2.o.keeps a5;clear Q)
  |(go_at_call 201;refine(ar.o _ (by exact cg H2.o)).mono ?_;rintro e w3 ⟨rfl,h3⟩;have H3:=UD (Chg w w3 []) (ct H2.o h3);have B3:=UD (Ac w3 w.heap.size Ef 42) (B2.o.kept h3);clear h3)
  |(go_at_call 197;refine(bM.o _ (by exact cg H3.o)).mono ?_;rintro e am ⟨rfl,h4⟩;have bJ:=UD (Chg w am []) (ct H3.o h4);have bI:=UD (Ac am w.heap.size Ef 42) (B3.o.kept h4);clear h4))
 obtain⟨K,aR⟩:=Ue am.drew
 have bR:=hZ aR;have aU:Hid (Chg am K []):=by rw[aR];exact hZ ((Chg.refl am []).drew)
 have Y:=UD (Chg w K []) (bJ.o.trans aU.o);have B4:=UD (Ac K w.heap.size Ef 42) (bI.o.kept aU.o);have ch:=Y.o.size;have ah:=bL.o K ch;have p1:=bN.o.kept Y.o;have p2:=bO.o.kept Y.o;have p3:=bP.o.kept Y.o
 have a4:∀f,OQ K n pi (ks.length-1) (vs.length-1) (nS (nM ⟨q,0,nN⟩) vs.length cv) (nS (nM ⟨gk,0,nN⟩) ks.length ck) ks (ks.eraseIdx pi) vs (vs.eraseIdx pi) (fun _=>false) f K:=fun f=>
  ⟨Chg.refl _ _,(fun _ e=>by cases e),(fun e=>by cases e),(fun e=>by cases e),(fun e=>by cases e),(fun e=>by cases e),fun _=>p1,(fun e=>by cases e),(fun e=>by cases e),fun _=>p2,fun _=>p3,(fun e=>by cases e),(fun e=>by cases e)⟩
 clear aR;refine wp_region_any Yb ?_;change wpAny _ _ _ _ _ _ _ (World.drew _);rw[<-bR.o];refine Gy _ (OQ K n pi (ks.length-1) (vs.length-1) (nS (nM ⟨q,0,nN⟩) vs.length cv) (nS (nM ⟨gk,0,nN⟩) ks.length ck) ks (ks.eraseIdx pi) vs (vs.eraseIdx pi)) Yb ?_ ?_ _ ?_
 .intro ii op a wa dd k I O r d K p
  match ii,k with
  |0,k=>
   obtain rfl:=Q5 k;have ax:a.tmps.getD 14 undef= nP (nM ⟨n,0,nN⟩):=I.at 14 Yb;go_simp
   exact p _ _ Zh (d.plain ZM ZM ZM ZM (by simp[Ed]) cR)
  |1,k=>
   obtain rfl:=Q5 k;have ax:a.tmps.getD 14 undef= nP (nM ⟨n,0,nN⟩):=I.at 14 Yb;go_simp
   exact p _ _ Zh (d.plain ZM ZM ZM ZM (by simp[Ed]) cR)
  |2,k=>
   obtain rfl:=Q5 k;have ax:a.tmps.getD 14 undef= nP (nM ⟨n,0,nN⟩):=I.at 14 Yb;go_simp
   exact p _ _ Zh (d.plain ZM ZM ZM ZM (by simp[Ed]) cR)
  |3,k=>
   obtain rfl:=Q5 k;have cx:a.tmps.getD 56 undef= nP (nM ⟨n,0,nN⟩):=d.vals 2 (r ⟨2,.data⟩ Zh rfl);go_simp
   exact p _ _ Zh (d.plain ZM ZM ZM ZM (by simp[Ed]) cR)
  |4,k=>
   obtain rfl:=Q5 k;have cy:a.tmps.getD 57 undef= nP (nM ⟨n,0,nN⟩):=d.vals 3 (r ⟨3,.data⟩ Zh rfl);go_simp
   exact p _ _ Zh (d.plain ZM ZM ZM ZM (by simp[Ed]) cR)
  |5,k=>
   obtain rfl:=Q5 k;have cz:a.tmps.getD 58 undef= nP (nM ⟨n,1,nN⟩):=d.vals 4 (r ⟨4,.data⟩ Zh rfl)
   have aw:dd 21=false:=by
    cases e:dd 21 with
    |false=>rfl
    |true=>have az:=d.o21 e;have h:=d.o9 (d.o18 az).1;rw[O]at h;cases h
   have E:=d.blk0 aw;have V:=E.cell 1;simp only[Qa,Qb]at V;go_simp
   exact p _ _ Zh (d.plain ZM ZM ZM ZM (by simp[Ed]) cR)
  |6,k=>
   obtain rfl:=Q5 k;have ay:a.tmps.getD 15 undef= nI nX pi:=I.at 15 Yb;go_simp
   exact p _ _ Zh (d.plain ZM ZM ZM ZM (by simp[Ed]) cR)
  |7,k=>
   obtain rfl:=Q5 k;have ay:a.tmps.getD 15 undef= nI nX pi:=I.at 15 Yb;go_simp
   exact p _ _ Zh (d.plain ZM ZM ZM ZM (by simp[Ed]) cR)
  |8,k=>
   obtain rfl:=Q5 k;have cC:a.tmps.getD 61 undef= nI nX pi:=d.vals 7 (r ⟨7,.data⟩ Zh rfl);have aS:IntKind.i64.wrap ((pi:Int)+1)=(pi:Int)+1:=IntWalk.i64_in _ Zj;go_simp
   exact p _ _ Zh (d.plain ZM ZM ZM ZM (by simp[Ed,aS]) cR)
  |9,k=>
   obtain rfl:=Q5 k;have d5:=r ⟨5,.data⟩ Zh rfl;have cA:a.tmps.getD 59 undef= nS (nM ⟨gk,0,nN⟩) ks.length ck:=d.vals 5 d5;have cB:a.tmps.getD 60 undef= nI nX pi:=d.vals 6 (r ⟨6,.data⟩ Zh rfl);have cD:a.tmps.getD 62 undef= nI nX (pi+1):=d.vals 8 (r ⟨8,.data⟩ Zh rfl);have bW:=d.keys0 O;go_simp
   go_at_call 202;refine(QD gk ck pi ks wa bW b4).mono ?_;rintro e w1 ⟨rfl,J,T⟩;exact p _ _ Zh (d.call9 ah O d5 J T rfl)
  |10,k=>
   obtain rfl:=Q5 k;have ax:a.tmps.getD 14 undef= nP (nM ⟨n,0,nN⟩):=I.at 14 Yb;go_simp
   exact p _ _ Zh (d.plain ZM ZM ZM ZM (by simp[Ed]) cR)
  |11,k=>
   obtain rfl:=Q5 k;have cF:a.tmps.getD 64 undef= nP (nM ⟨n,0,nN⟩):=d.vals 10 (r ⟨10,.data⟩ Zh rfl);go_simp
   exact p _ _ Zh (d.plain ZM ZM ZM ZM (by simp[Ed]) cR)
  |12,k=>
   obtain rfl:=Q5 k;have cG:a.tmps.getD 65 undef= nP (nM ⟨n,0,nN⟩):=d.vals 11 (r ⟨11,.data⟩ Zh rfl);go_simp
   exact p _ _ Zh (d.plain ZM ZM ZM ZM (by simp[Ed]) cR)
  |13,k=>
   obtain rfl:=Q5 k;have cH:a.tmps.getD 66 undef= nP (nM ⟨n,0,nN⟩):=d.vals 12 (r ⟨12,.data⟩ Zh rfl);go_simp
   exact p _ _ Zh (d.plain ZM ZM ZM ZM (by simp[Ed]) cR)
  |14,k=>
   obtain rfl:=Q5 k;have cI:a.tmps.getD 67 undef= nP (nM ⟨n,0,nN⟩):=d.vals 13 (r ⟨13,.data⟩ Zh rfl)
   have aw:dd 21=false:=by
    cases e:dd 21 with
    |false=>rfl
    |true=>have az:=d.o21 e;have h:=(d.o18 az).2;rw[O]at h;cases h
   have E:=d.blk0 aw;have V:=E.cell 0;simp only[Qa,Qb]at V;go_simp
   exact p _ _ Zh (d.plain ZM ZM ZM ZM (by simp[Ed]) cR)
  |15,k=>
   obtain rfl:=Q5 k;have ay:a.tmps.getD 15 undef= nI nX pi:=I.at 15 Yb;go_simp
   exact p _ _ Zh (d.plain ZM ZM ZM ZM (by simp[Ed]) cR)
  |16,k=>
   obtain rfl:=Q5 k;have ay:a.tmps.getD 15 undef= nI nX pi:=I.at 15 Yb;go_simp
   exact p _ _ Zh (d.plain ZM ZM ZM ZM (by simp[Ed]) cR)
  |17,k=>
   obtain rfl:=Q5 k;have cL:a.tmps.getD 70 undef= nI nX pi:=d.vals 16 (r ⟨16,.data⟩ Zh rfl);have aS:IntKind.i64.wrap ((pi:Int)+1)=(pi:Int)+1:=IntWalk.i64_in _ Zj;go_simp
   exact p _ _ Zh (d.plain ZM ZM ZM ZM (by simp[Ed,aS]) cR)
  |18,k=>
   obtain rfl:=Q5 k;have a1:=r ⟨14,.data⟩ Zh rfl;have d9:=r ⟨9,.chain⟩ Zh rfl;have cJ:a.tmps.getD 68 undef= nS (nM ⟨q,0,nN⟩) vs.length cv:=d.vals 14 a1;have cK:a.tmps.getD 69 undef= nI nX pi:=d.vals 15 (r ⟨15,.data⟩ Zh rfl);have cM:a.tmps.getD 71 undef= nI nX (pi+1):=d.vals 17 (r ⟨17,.data⟩ Zh rfl);have bX:=d.items0 O;go_simp
   go_at_call 203;refine(NV q cv pi vs wa b3 bX b5).mono ?_;rintro e w1 ⟨rfl,J,T⟩;exact p _ _ Zh (d.call18 ah O d9 a1 J T rfl)
  |19,k=>
   obtain rfl:=Q5 k;have cu:a.tmps.getD 54 undef= nP (nM ⟨n,0,nN⟩):=d.vals 0 (r ⟨0,.data⟩ Zh rfl);go_simp
   exact p _ _ Zh (d.plain ZM ZM ZM ZM (by simp[Ed]) cR)
  |20,k=>
   obtain rfl:=Q5 k;have cO:a.tmps.getD 73 undef= nP (nM ⟨n,0,nN⟩):=d.vals 19 (r ⟨19,.data⟩ Zh rfl);go_simp
   exact p _ _ Zh (d.plain ZM ZM ZM ZM (by simp[Ed]) cR)
  |21,k=>
   obtain rfl:=Q5 k;have a2:=r ⟨18,.chain⟩ Zh rfl;have cP:a.tmps.getD 74 undef= nP (nM ⟨n,1,nN⟩):=d.vals 20 (r ⟨20,.data⟩ Zh rfl);obtain⟨g,au,X,q2,q3⟩:=d.r9 (d.o18 a2).1;have cE:a.tmps.getD 63 undef= nS (nM ⟨g,0,nN⟩) (ks.length-1) au:=X;have E:=d.blk0 O;have V:=E.cell 1;have b2:=E.frozen 1;simp only[Qa,Qb]at V;have ak:=d.store21 ah O a2;rw[X]at ak;go_simp
   exact p _ _ Zh ak
  |22,k=>
   obtain rfl:=Q5 k;have cw:a.tmps.getD 55 undef= nP (nM ⟨n,0,nN⟩):=d.vals 1 (r ⟨1,.data⟩ Zh rfl);go_simp
   exact p _ _ Zh (d.plain ZM ZM ZM ZM (by simp[Ed]) cR)
  |23,k=>
   obtain rfl:=Q5 k;have cQ:a.tmps.getD 75 undef= nP (nM ⟨n,0,nN⟩):=d.vals 22 (r ⟨22,.data⟩ Zh rfl);go_simp
   exact p _ _ Zh (d.plain ZM ZM ZM ZM (by simp[Ed]) cR)
  |24,k=>
   obtain rfl:=Q5 k;have cS:a.tmps.getD 76 undef= nP (nM ⟨n,0,nN⟩):=d.vals 23 (r ⟨23,.data⟩ Zh rfl);go_simp
   exact p _ _ Zh (d.plain ZM ZM ZM ZM (by simp[Ed]) cR)
  |25,k=>
   obtain rfl:=Q5 k;have av:=r ⟨21,.chain⟩ Zh rfl;have cT:a.tmps.getD 77 undef= nP (nM ⟨n,0,nN⟩):=d.vals 24 (r ⟨24,.data⟩ Zh rfl);obtain⟨g,au,X,q2,q3⟩:=d.r18 (d.o21 av);have cN:a.tmps.getD 72 undef= nS (nM ⟨g,0,nN⟩) (vs.length-1) au:=X;have E:=d.blk1 av O;have V:=E.cell 0;have b2:=E.frozen 0;simp only[Qa,Qb]at V;have ak:=d.store25 ah O av;rw[X]at ak;go_simp
   exact p _ _ Zh ak
  |_+26,k=>exact absurd k Zh
 .intro a H dd I hd d
  obtain⟨cq,U,f1,f2,f3⟩:=d.r9 (hd 9 ZM);obtain⟨cr,ad,g1,g2,g3⟩:=d.r18 (hd 18 ZM);have E:=d.blk2 (hd 25 ZM);rw[f1,g1]at E;simp[Vl.ownBlock]at f3 g3;subst f3 g3;have b1:U=U:=rfl;have aq:Chg K H [n,gk,q]:=d.chg;obtain⟨f4,f5⟩:True/\True:=⟨trivial,trivial⟩;have cl:=hZ E;have cm:=hZ f2;have cn:=hZ g2;have HR:=UD (Chg w H [n,gk,q]) ((Y.o.none _).trans aq);obtain⟨P,an,m1,m2,aT,m4,m5,m6⟩:=bQ.o H U ad HR.o E g2 f2;have bS:=hZ aT;have m3:DJ w (W::bs) (W::(P++an)):=(DJ.refl HH.o.nodup).count aT;have aE:W∉P++an:=(List.nodup_cons.1 m3.nodup).1;have M1:=hZ m1;have M2:=hZ m2;have M3:=hZ m3;have M5:=hZ m5;have B5:=UD (Ac H w.heap.size Ef 42) (B4.o.kept aq (by simp;omega));have W5:=hZ (aV.o.kept HR.o (by simp;omega));have bT:=W5.o.cell 1;have bU:=W5.o.cell 2;have cp:∀j,H.frozen? ⟨W,j,nN⟩=false:=fun j=>W5.o.frozen j
  have c2:=W5.o.lt;simp only[Qa,Qb]at bT bU;have e5:=((Y.o.none [n,gk,q]).trans aq);clear d f1 f2 g1 g2 E aq m1 m2 m3 aT m4 m5 m6 hd a4 ah p1 p2 p3 f4 f5 b1 e5;have ae:=I.form' [54,55,56,57,58,59,60,61,62,63,64,65,66,67,68,69,70,71,72,73,74,75,76,77] Yb;have a7:=I.defers;obtain⟨A,df⟩:=a;clear I
  dsimp only at ae a7
  simp only[List.foldl_cons,List.foldl_nil]at ae;obtain⟨u54,bg⟩:=Ue (A.getD 54 undef)
  obtain⟨u55,bh⟩:=Ue (A.getD 55 undef)
  obtain⟨u56,bi⟩:=Ue (A.getD 56 undef)
  obtain⟨u57,bj⟩:=Ue (A.getD 57 undef)
  obtain⟨u58,bk⟩:=Ue (A.getD 58 undef)
  obtain⟨u59,bl⟩:=Ue (A.getD 59 undef)
  obtain⟨u60,bm⟩:=Ue (A.getD 60 undef)
  obtain⟨u61,bn⟩:=Ue (A.getD 61 undef)
  obtain⟨u62,bo⟩:=Ue (A.getD 62 undef)
  obtain⟨u63,bq⟩:=Ue (A.getD 63 undef)
  obtain⟨u64,br⟩:=Ue (A.getD 64 undef)
  obtain⟨u65,bt⟩:=Ue (A.getD 65 undef)
  obtain⟨u66,bv⟩:=Ue (A.getD 66 undef)
  obtain⟨u67,bw⟩:=Ue (A.getD 67 undef)
  obtain⟨u68,bx⟩:=Ue (A.getD 68 undef)
  obtain⟨u69,bz⟩:=Ue (A.getD 69 undef)
  obtain⟨u70,bA⟩:=Ue (A.getD 70 undef)
  obtain⟨u71,bB⟩:=Ue (A.getD 71 undef)
  obtain⟨u72,bC⟩:=Ue (A.getD 72 undef)
  obtain⟨u73,bD⟩:=Ue (A.getD 73 undef)
  obtain⟨u74,bE⟩:=Ue (A.getD 74 undef)
  obtain⟨u75,bF⟩:=Ue (A.getD 75 undef)
  obtain⟨u76,bG⟩:=Ue (A.getD 76 undef)
  obtain⟨u77,bH⟩:=Ue (A.getD 77 undef)
  rw[<-bg,<-bh,<-bi,<-bj,<-bk,<-bl,<-bm,<-bn,<-bo,<-bq,<-br,<-bt,<-bv,<-bw,<-bx,<-bz,<-bA,<-bB,<-bC,<-bD,<-bE,<-bF,<-bG,<-bH]at ae;clear bg bh bi bj bk bl bm bn bo bq br bt bv bw bx bz bA bB bC bD bE bF bG bH;simp only[List.setIfInBounds_toArray,List.set_cons_zero,List.set_cons_succ]at ae;subst ae;subst a7
  go_wp2_with(first
   |(go_at_call 196;refine(aY.o _ P (by exact((HR.o.mono (cs:=[W,n,gk,q]) (fun _ _ C=>Qg _ C)).setCell _ _ Zh).setCell _ _ Zh) (by exact M1.o.chg (cs:=[W]) (((Chg.refl _ [W]).setCell _ _ Zh).setCell _ _ Zh) (fun y z C=>by simp at z;subst z;exact aE (Qe _ C)))).mono ?_;rintro e w6 h5;obtain⟨c6,ys,G,rfl,J,T⟩:=h5.at;have K1:=hZ J;have K2:=hZ T;obtain⟨sa,sc,rfl,_⟩:=J.row.form;clear h5 J T)
   |(refine Ae rfl _ _ _ rfl w.heap.size (BJ (AC 1 (B++[s]) (Ai u)) (nS sa (AC 1 (B++[s]) (Ai u)).steps.length sc)) ZN ZN 42 Ef (by exact((B5.o.set_other _ _ (by simp only;omega)).set_other _ _ (by simp only;omega)).kept K2.o) A0 rfl (Dx _ _ _ _) ?_;intro w7 ci a3 bb;have bK:=hZ a3;have ab:=hZ bb;clear ci a3 bb))
  have cf:=HR.o.size;have aD:Chg H w6 [W]:=Chg.trans (b:=_) (((Chg.refl _ [W]).setCell _ _ Zh).setCell _ _ Zh) (K2.o.none _);have bZ:Chg w w6 [W,n,gk,q]:=(HR.o.mono (fun _ _ C=>Qg _ C)).trans (aD.mono (fun _ _ C=>by simp at C;simp[C]));have bV:Chg w w7 [W,n,gk,q]:=bZ.step ab.o (fun i hi hl=>by simp at hi;omega);have hk:=K1.o.kept (w0:=w) ab.o (fun b hb=>by simp at hb;subst hb;simpa using B5.o.lt) (by simpa using cf)
  have aN:∀y,y∈W::(P++an)->y<w.heap.size:=fun y z=>by
   have R:=List.count_pos_iff.2 z;have Q:=bS.o y
   rcases Qh.1 (List.count_pos_iff.1 (Q6 R Q))with h|h
   .omega
   .exact AP.lt _ _ _ HH.o.wat.at_ _ h
  refine bodyPost_ret (Hh rfl _ _ w.heap.size 42 (BJ (AC 1 (B++[s]) (Ai u)) (nS sa (AC 1 (B++[s]) (Ai u)).steps.length sc)) _ rfl bK.o underlying42 rfl A0) rfl ?_;rw[JH]at Z aW|-;refine⟨nF tu xu,P,nF tv xv,an,_,ys,G,rfl,hk, ?_,⟨?_, ?_,aW.o⟩,M3.o,bV.mono (fun _ _ C=> ?_),fun b hb hG=> ?_⟩
  .exact(M1.o.chg aD (fun y z C=>by simp at z;subst z;exact aE (Qe _ C))).chg ab.o (fun y z C=>by simp at z;subst z;exact Nat.lt_irrefl _ (aN _ (Qg _ (Qe _ C))))
  .have e1:=Z.o.1
   have e2:=Z.o.2;have hb:=((W5.o.set 1 (nI nX (N-su.nodes))).set 2 (nI nX (BB-(su.bytes+s.size))));rw[e1,e2];exact(hb.kept K2.o).kept ab.o (by simp;omega)
  .exact(M2.o.chg aD (fun y z C=>by simp at z;subst z;exact aE (Qd _ C))).chg ab.o (fun y z C=>by simp at z;subst z;exact Nat.lt_irrefl _ (aN _ (Qg _ (Qd _ C))))
  .simp at C
   rcases C with rfl|rfl|rfl|rfl
   .simp
   .exact Qg _ (M5.o _ Zh)
   .exact Qg _ (M5.o _ Zh)
   .exact Qg _ (M5.o _ Zh)
  .have R:=(hk.new b hG).1
   have Q:=aN b hb;omega
 .exact a4 _
theorem Xw(W:Nat)(t:Tr)(v e:Vl)(bs:List Nat)(F:Nat->Prop)(a:Option Addr)(c:Nat)(ts:List BY)(w:Wl)(h:UI W t v e bs F (nS a ts.length c) ts w)(g:ts≠[]):
  Cl prog 167 #[nP (nM ⟨W,0,nN⟩),nS a ts.length c] w (EC W e (W::bs) t ts w):=by
 cases b:Ah t ts with
 |none=>
  rw[JE b];exact RJ W t v e bs F a _ c ts w _ h.laid h.wat h.tat b
 |some u=>
  obtain⟨d,s,rfl⟩:∃d s,ts=d++[s]:=⟨ts.dropLast,ts.getLast g,(List.dropLast_concat_getLast g).symm⟩
  have j:(d++[s]).length=d.length+1:=Zh
  rw[j]at h|-;rw[BW]at b
  cases f:Ah t d with
  |none=>rw[f]at b;simp at b
  |some p=>
   rw[f]at b;simp only[Option.bind_some]at b;by_cases i:AX p=true
   .rw[Md i]at b;cases b
   .cases p with
    |list l=>exact RI W t u v e bs F a c d s w l h f b
    |obj ks l=>exact TD W t u v e bs F a c d s w ks l h f b
    |_=>simp[AX]at i
end
section
open Go Go.Shelf Go.RowKit Go.Lib Tree Ptr
structure EW(w0 w':Wl)(os:List Bq)(sl:Vl)(xs:List Vl)(G:Nat->Prop):Prop where
 row:As w' sl 4 os.length xs
 inn:SE G sl
 ops:Eh w' G os xs
 new:∀b,G b->w0.heap.size<=b/\b<w'.heap.size
theorem EW.none(w0 w:Wl):EW w0 w [] (nS Option.none 0 0) [] (fun _=>False):=
 ⟨⟨Option.none,0,rfl,Q8 _,rfl,fun i v a=>by simp at a⟩,(fun b o n c e=>by injection e with e;cases e),rfl,fun _ h=>False.elim h⟩
theorem EW.kept{w0 g w2 c:Wl}{os:List Bq}{f:Vl}{xs:List Vl}{G:Nat->Prop}{cs:List Nat}(h:EW g w2 os f xs G)(d:Chg w2 c cs)(i:∀b,b∈cs->¬G b)(j:w0.heap.size<=g.heap.size):EW w0 c os f xs G:=by
 have e:BZ G w2 c:=d.keepsF (fun b a=>(h.new b a).2) i;exact⟨h.row.keptF h.inn e,h.inn,h.ops.kept e (fun _ h=>h),fun b a=>by have:=h.new b a;have:=d.size;omega⟩
theorem EW.one{w0 d w2:Wl}{o:Bq}{sv:Vl}{ys:List Vl}{G:Nat->Prop}{g:Nat}(h:Dr w0 d o sv ys G)(l:w0.heap.size<=d.heap.size)(j:Chg d w2 [])(f:Ac w2 g (BJ o sv) 42)(m:d.heap.size<=g):
  EW w0 w2 [o] (nS (nM ⟨g,0,Option.none⟩) 1 1) (BJ o sv) (fun b=>b=g\/G b):=by
 have q:=j.size;have k:BZ G d w2:=j.keepsF (fun b a=>(h.new b a).2);refine⟨⟨_,_,rfl,Q8 _,by simp[BJ],fun i v p=>⟨g,0,rfl,by rw[Nat.zero_add,f.cell i];exact p⟩⟩,(fun b o n c e=>by injection e with e;injection e with e;injection e with e;exact .inl e.symm), ?_, ?_⟩
 .exact⟨sv,ys,[],Zh,h.row.keptF h.inn k,h.inn.mono (fun b a=> .inr a),h.steps.kept k (fun b a=> .inr a),rfl⟩
 .rintro b (rfl|a)
  .have:=f.lt
   exact⟨Q7 l m,f.lt⟩
  .have:=h.new b a;omega
def BC(W:Nat)(h:Vl)(c:List Nat)(r:PV)(w:Wl)(e:Ending)(w':Wl):Prop:=match r with
 | .no n=>AZ n c w e w'
 | .yes f g=>∃i a d xs G,e= nR d/\EW w w' (g.reverse.map CW.toI) d xs G/\Hu w' W f i h a/\DJ w c (W::a)/\Chg w w' c/\∀b,b∈W::a->¬G b
theorem Sx.kept{W:Nat}{t x:Tr}{v d e:Vl}{bs b:List Nat}{F:Nat->Prop}{c:Vl}{ts:List BY}{w w':Wl}(h:Sx W t x v d e bs b F c ts w)(a:Chg w w' []):Sx W t x v d e bs b F c ts w':=
 ⟨h.laid.kept a,h.wat.kept a,h.xat.chg a Zh,h.xfine,h.tat.kept a,h.nodup,h.big,h.apart⟩
theorem UI.kept{W:Nat}{t:Tr}{v c:Vl}{bs:List Nat}{F:Nat->Prop}{b:Vl}{ts:List BY}{w w':Wl}(h:UI W t v c bs F b ts w)(a:Chg w w' []):UI W t v c bs F b ts w':=
 ⟨h.laid.kept a,h.wat.kept a,h.tat.kept a,h.nodup,h.big,h.apart⟩
theorem Hz{W:Nat}{b:Vl}{a:List Nat}{w:Wl}{n:Nat}:BC W b a (.no n) w=AZ n a w:=rfl
theorem GC{W:Nat}{o:Vl}{j:List Nat}{n:Tr}{r:CW}{w e w2 k:Wl}{p sv:Vl}{a:List Nat}{ys:List Vl}{G:Nat->Prop}{g:Nat}(l:Chg w e [])(c:Dr e w2 r.toI sv ys G)(i:Hu w2 W n p o a)(t:DJ e j (W::a))(m:Chg e w2 j)(s:∀b,b∈W::a->¬G b)(q:Ac k g (BJ r.toI sv) 42)(u:w2.heap.size<=g)(f:Chg w2 k []):BC W o j (.yes n [r]) w (nR (nS (nM ⟨g,0,nN⟩) 1 1)) k:=by
 have v:=l.size;have x:=m.size;refine⟨p,a,_,_,_,rfl,EW.one (w0:=w) ⟨c.row,c.inn,c.steps,fun b d=>by have:=c.new b d;omega⟩ Zj f q u,i.kept f,t.back v,(l.none _).trans (m.trans (f.none _)),fun b d=> ?_⟩;rintro(rfl|h)
 .rcases Qh.1 d with h|h
  .have:=i.blk.lt;omega
  .have:=AP.lt _ _ _ i.at_ _ h;omega
 .exact s b d h
end
section
open _root_.Go.Proofs.Tryz
open Go Go.Shelf Go.RowKit Go.Lib Tree Ptr
theorem YG(W:Nat)(t x:Tr)(v j n:Vl)(bs d:List Nat)(F:Nat->Prop)(a:Option Addr)(c:Nat)(ts:List BY)(k:Int)(p f:BY)(sv N:Vl)(w:Wl)(h:Sx W t x v j n bs d F (nS a ts.length c) ts w):
  Cl prog 128 #[nP (nM ⟨W,0,nN⟩),nA #[nI nX k,nG p,nG f,sv,nS a ts.length c,N,n]] w (BC W j (W::(d++bs)) (Ga t ts x []) w):=by
 have g:=UD (∀b,Chg w b []->Cl prog 166 #[nP (nM ⟨W,0,nN⟩),nS a ts.length c,n] b (Cq W j (W::(d++bs)) t x ts b)) fun b K=>Xo W t x v j n bs d F a c ts b (h.kept K)
 obtain⟨S,U,rfl⟩:=h.xat.iface;clear h;unfold Ga;by_cases i:EN t ts≠0
 .rw[Qr i,Hz]
  rw[show Cq W j (W::(d++bs)) t (x:=x) ts=fun b=>AZ (EN t ts) (W::(d++bs)) b from funext fun b=>LG rfl i]at g;go_enter func128,ntmps128
  go_wp2_with(first
   |(go_at_call 166;refine(g.o _ (by exact cg cR)).mono ?_;rintro e w2 ⟨l,h⟩;unfold By at l;subst l;have o:=UD (Chg w w2 (W::(d++bs))) (ct cR h);clear h))
  exact⟨rfl,rfl,o.o⟩
 .rw[Qs i]
  have i:EN t ts=0:=by simpa using i
  unfold Kj;by_cases m:(Ag (At t ts x)).within=true
  .rw[Qr m]
   rw[show Cq W j (W::(d++bs)) t (x:=x) ts=fun b=>ET W j (W::(d++bs)) (At t ts x) (Dd t ts).toI b from funext fun b=>LS i m]at g;obtain⟨r,u⟩:=Ue (Dd t ts)
   obtain⟨R,y⟩:=Ue (At t ts x)
   rw[<-u,<-y]at g|-;obtain⟨P,s⟩:=Ue r.toI
   rw[<-s]at g;clear u y m i;go_enter func128,ntmps128
   go_wp2_with(first
    |(go_at_call 166;refine(g.o _ (by exact cg cR)).mono ?_;rintro e w2 ⟨T,O,Q,ys,G,rfl,q,z,A,B,C⟩;have D:=hZ q;have E:=hZ z;have H:=hZ A;have I:=hZ B;have J:=hZ C;obtain⟨L,M,rfl,_⟩:=q.row.form;clear q z A B C;unfold BJ))
   refine bodyPost_ret (results_tmp rfl _ _ _) rfl ?_;subst s;exact GC (by exact cg cR) D.o E.o H.o I.o J.o (Ac.new w2 (BJ r.toI (nS L r.toI.steps.length M)) 42) (Q8 _) (by exact cg cR)
  .rw[Qs m,Hz]
   rw[show Cq W j (W::(d++bs)) t (x:=x) ts=fun b=>AZ 3 (W::(d++bs)) b from funext fun b=>Hv i (by simpa using m)]at g;go_enter func128,ntmps128
   go_wp2_with(first
    |(go_at_call 166;refine(g.o _ (by exact cg cR)).mono ?_;rintro e w2 ⟨l,h⟩;unfold By at l;subst l;have o:=UD (Chg w w2 (W::(d++bs))) (ct cR h);clear h))
   exact⟨rfl,rfl,o.o⟩
def YN(t:Tr)(a:List BY):PV:=if a=[]then .no 176 else match Ah t a with
 |none=> .no 4
 |some u=> .yes (A8 t a) [⟨1,A6 a,Dz,Ai u⟩]
theorem Tw(W:Nat)(t:Tr)(v j:Vl)(bs:List Nat)(F:Nat->Prop)(a:Option Addr)(c:Nat)(ts:List BY)(k:Int)(p f:BY)(sv ad vx:Vl)(w:Wl)(h:UI W t v j bs F (nS a ts.length c) ts w):
  Cl prog 129 #[nP (nM ⟨W,0,nN⟩),nA #[nI nX k,nG p,nG f,sv,nS a ts.length c,ad,vx]] w (BC W j (W::bs) (YN t ts) w):=by
 unfold YN;by_cases n:ts=[]
 .subst n
  rw[Qr rfl,Hz];clear h;go_enter func129,ntmps129
  go_wp2_with(first
   |(go_at_call 53;refine(Bu _ _).mono ?_;rintro e w2 ⟨l,h⟩;unfold By at l;subst l;have x:=UD (Chg w w2 []) (ct cR h);clear h))
  exact⟨rfl,rfl,x.o.none _⟩
 .rw[Qs n]
  have K:0<ts.length:=List.length_pos_iff.2 n;have aa:ts.length<=65536:=h.tat.ok.many;have g:=UD (∀d,Chg w d []->Cl prog 167 #[nP (nM ⟨W,0,nN⟩),nS a ts.length c] d (EC W j (W::bs) t ts d)) fun d hx=>Xw W t v j bs F a c ts d (h.kept hx) n
  obtain⟨m,J⟩:=Ue ts.length
  rw[<-J]at g K aa|-;have af:(0:Int)<m:=Zj
  have hd:decide (0<m)=true:=by simpa using K
  clear h J n
  cases q:Ah t ts with
  |none=>
   rw[Hz];rw[show EC W j (W::bs) t ts=fun d=>AZ 4 (W::bs) d from funext fun d=>JE q]at g;go_enter func129,ntmps129
   go_wp2_with(first
    |(go_at_call_of 53 (Vl.bool true);refine(Bv _ _).mono ?_;rintro e w4 ⟨rfl,rfl⟩)
    |(go_at_call 167;refine(g.o _ (by exact cg cR)).mono ?_;rintro e w2 ⟨l,h⟩;unfold By at l;subst l;have x:=UD (Chg w w2 (W::bs)) (ct cR h);clear h))
   exact⟨rfl,rfl,x.o⟩
  |some u=>
   dsimp only
   rw[show EC W j (W::bs) t ts=fun d=>T6 W j (W::bs) (A8 t ts) u (AC 1 ts (Ai u)) d from funext fun d=>JF q]at g;obtain⟨r,y⟩:=Ue ((⟨1,A6 ts,Dz,Ai u⟩:CW))
   obtain⟨t',z⟩:=Ue (A8 t ts)
   rw[show AC 1 ts (Ai u)=r.toI by rw[y];rfl,<-z]at g;rw[<-y,<-z];obtain⟨s,o⟩:=Ue r.toI
   rw[<-o]at g;have T:=hZ o;clear y z q o;go_enter func129,ntmps129
   go_wp2_with(first
    |(go_at_call_of 53 (Vl.bool true);refine(Bv _ _).mono ?_;rintro e w4 ⟨rfl,rfl⟩)
    |(go_at_call 167;refine(g.o _ (by exact cg cR)).mono ?_;rintro e w2 ⟨vu,bu,v',ae,ag,ys,G,rfl,A,k2,M,N,O,P⟩;have U:=hZ A;have V:=hZ M;have X:=hZ N;have Y:=hZ O;have Z:=hZ P;obtain⟨B,C,rfl,_⟩:=A.row.form;clear A k2 M N O P)
    |(refine Ae rfl _ _ _ rfl w2.heap.size (BJ s (nS B s.steps.length C)) ZN ZN 42 Ef (by exact Ac.new w2 Ef 42) A0 rfl (Dx _ _ _ _) ?_;intro Q L E I;have R:=hZ E;have S:=hZ I;have D:=hZ L;clear L E I)
    |(refine Bp rfl _ _ rfl w2.heap.size ZN 42 (BJ s (nS B s.steps.length C)) R.o _ underlying42 rfl A0 ?_;unfold BJ))
   all_goals(have ab:=D.o;have D:Q.heap.size=w2.heap.size+1:=by simpa using ab)
   have o:=T.o;subst o;refine bodyPost_ret (results_tmp rfl _ _ _) rfl ?_;exact GC (by exact cg cR) U.o V.o (X.o.sub Zh) Y.o (fun b H=>Z.o b (by simp at H|-;rcases H with h|h<;>simp[h])) (w2:=w2) (Ac.new Q (BJ r.toI (nS B r.toI.steps.length C)) 42) Zj (Chg.alloc (Chg.step (Chg.alloc cR _) S.o (fun i hi q=>by simp at hi;omega)) _)
def Uq(t:Tr)(a:List BY)(x:Tr):PV:=match Ah t a with
 |none=> .no 4
 |some u=>Kj (AE t a x) [⟨3,A6 a,Dz,Ai u⟩]
theorem Ry(W:Nat)(t x:Tr)(v i n:Vl)(bs d:List Nat)(F:Nat->Prop)(a:Option Addr)(c:Nat)(ts:List BY)(k:Int)(p f:BY)(sv O:Vl)(w:Wl)(h:Sx W t x v i n bs d F (nS a ts.length c) ts w):
  Cl prog 130 #[nP (nM ⟨W,0,nN⟩),nA #[nI nX k,nG p,nG f,sv,nS a ts.length c,O,n]] w (BC W i (W::(d++bs)) (Uq t ts x) w):=by
 have g:=UD (∀b,Chg w b []->Cl prog 168 #[nP (nM ⟨W,0,nN⟩),nS a ts.length c,n] b (Du W i (W::(d++bs)) t x ts b)) fun b L=>ae W t x v i n bs d F a c ts b (h.kept L)
 obtain⟨T,V,rfl⟩:=h.xat.iface;clear h;unfold Uq
 cases m:Ah t ts with
 |none=>
  rw[Hz];rw[show Du W i (W::(d++bs)) t (x:=x) ts=fun b=>AZ 4 (W::(d++bs)) b from funext fun b=>RP m]at g;go_enter func130,ntmps130
  go_wp2_with(first
   |(go_at_call 168;refine(g.o _ (by exact cg cR)).mono ?_;rintro e w2 ⟨j,h⟩;unfold By at j;subst j;have o:=UD (Chg w w2 (W::(d++bs))) (ct cR h);clear h))
  exact⟨rfl,rfl,o.o⟩
 |some u=>
  dsimp only
  unfold Kj;by_cases l:(Ag (AE t ts x)).within=true
  .rw[Qr l]
   rw[show Du W i (W::(d++bs)) t (x:=x) ts=fun b=>ET W i (W::(d++bs)) (AE t ts x) (Uu ts u) b from funext fun b=>Pr m l]at g;obtain⟨r,q⟩:=Ue ((⟨3,A6 ts,Dz,Ai u⟩:CW))
   obtain⟨S,s⟩:=Ue (AE t ts x)
   rw[show Uu ts u=r.toI by rw[q];rfl,<-s]at g;rw[<-q,<-s];obtain⟨Q,z⟩:=Ue r.toI
   rw[<-z]at g;clear q s l m;go_enter func130,ntmps130
   go_wp2_with(first
    |(go_at_call 168;refine(g.o _ (by exact cg cR)).mono ?_;rintro e w2 ⟨U,P,R,ys,G,rfl,y,A,B,C,D⟩;have E:=hZ y;have H:=hZ A;have I:=hZ B;have J:=hZ C;have K:=hZ D;obtain⟨M,N,rfl,_⟩:=y.row.form;clear y A B C D;unfold BJ))
   refine bodyPost_ret (results_tmp rfl _ _ _) rfl ?_;subst z;exact GC (by exact cg cR) E.o H.o I.o J.o K.o (Ac.new w2 (BJ r.toI (nS M r.toI.steps.length N)) 42) (Q8 _) (by exact cg cR)
  .rw[Qs l,Hz]
   rw[show Du W i (W::(d++bs)) t (x:=x) ts=fun b=>AZ 3 (W::(d++bs)) b from funext fun b=>J0 m (by simpa using l)]at g;go_enter func130,ntmps130
   go_wp2_with(first
    |(go_at_call 168;refine(g.o _ (by exact cg cR)).mono ?_;rintro e w2 ⟨j,h⟩;unfold By at j;subst j;have o:=UD (Chg w w2 (W::(d++bs))) (ct cR h);clear h))
   exact⟨rfl,rfl,o.o⟩
def PX(V:Nat->Vl->Prop)(w0:Wl)(d:Nat->Bool)(f:Nat->Vl)(w:Wl):Prop:=Chg w0 w []/\∀j,d j=true->V j (f j)
theorem PX.put{V:Nat->Vl->Prop}{w0 w w':Wl}{d:Nat->Bool}{f:Nat->Vl}{j:Nat}{v:Vl}(h:PX V w0 d f w)(c:V j v)(b:Chg w w' []):PX V w0 (BA d j) (Eb f j v) w':=
 ⟨h.1.trans b,fun k a=>by
  by_cases e:k=j
  .subst e;rw[Bf];exact c
  .rw[AA f v e];rw[An d e]at a;exact h.2 k a⟩
def M6(t:Tr)(a:List BY)(x:Tr):PV:=match Ah t a with
 |none=> .no 4
 |some u=>if BQ u x=true then .yes t []else .no 173
def OI(W B:Nat)(t x:Tr)(ts:List BY)(a b c:Vl)(j:Nat)(v:Vl):Prop:=match j with
 |0=>v= nP (nM ⟨W,0,nN⟩)
 |1=>v= nP (nM ⟨B,4,nN⟩)
 |2=>v=a
 |3=>v=b/\∃u,Ah t ts=nM u
 |4=>v= nP (nM ⟨B,6,nN⟩)
 |5=>v=c
 |6=>∃u,Ah t ts=nM u/\v= .bool (BQ u x)
 |7=>∃u,Ah t ts=nM u/\BQ u x=true
 |_=>True
theorem QE{W:Nat}{d v:Vl}{bs c:List Nat}{t:Tr}{w w':Wl}(f:Hu w W t v d bs)(e:DJ w c (W::bs))(a:Chg w w' []):BC W d c (.yes t []) w (nR (nS nN 0 0)) w':=
 ⟨v,bs,_,_,_,rfl,EW.none w w',f.kept a,e,a.none _,fun b g h=>h⟩
theorem Xr(W:Nat)(t x:Tr)(v uv G:Vl)(bs I:List Nat)(F:Nat->Prop)(q:Option Addr)(c:Nat)(ts:List BY)(k:Int)(p f:BY)(sv M:Vl)(ao:Av x)(w:Wl)(h:Sx W t x v uv G bs I F (nS q ts.length c) ts w):
  Cl prog 133 #[nP (nM ⟨W,0,nN⟩),nA #[nI nX k,nG p,nG f,sv,nS q ts.length c,M,G]] w (BC W uv (W::(I++bs)) (M6 t ts x) w):=by
 obtain⟨o,X,V⟩:∃o,(∀y,Chg w y []->Cl prog 170 #[nP (nM ⟨W,0,nN⟩),nS q ts.length c] y (fun e w'=>Chg y w' []/\match Ah t ts with
   |none=>e=By 4
   |some u=>e= nR o/\True))/\∀u,Ah t ts=nM u->∀B,Chg w B []->Cl prog 171 #[o,G] B (BU (BQ u x) B):=by
  cases g:Ah t ts with
  |none=>exact⟨.nilIface,fun y L=>(Im h.laid h.wat h.tat g y L).mono fun e w' ⟨i,j⟩=>⟨j,i⟩,fun u e=>by cases e⟩
  |some u=>
   obtain⟨o,bu,rest,hf⟩:=EU h.wat.at_ _ ts _ rfl g;refine⟨o,fun y L=>(Dl h.laid h.wat h.tat hf y L).mono fun e w' ⟨i,j⟩=>⟨j,i,trivial⟩,fun u' e B hy=> ?_⟩
   injection e with e;subst e
   have aa:=h.wat.fine.lead g;exact ZB _ u x o G _ _ B (Q8 _) (Ar aa.fits).1 aa.good ao (hf.at_.chg hy Zh) (h.xat.chg hy Zh)
 have Q:=hZ X;have am:=hZ V;clear X V;obtain⟨E,H,ap⟩:=h.xat.iface;subst ap;have HW:=hZ h.wat;have T:DJ w (W::(I++bs)) (W::bs):=(DJ.refl h.nodup).sub Zh;have HO:=hZ T;obtain⟨D,ab⟩:=Ue ts.length
 rw[<-ab]at Q|-;have aq:=h.xat;clear h T ab aq;go_enter func133,ntmps133
 go_wp2_with fail
 obtain⟨O,C⟩:=Ue (World.drew (w.alloc (nC #[nI nX k,nG p,nG f,sv,nS q D c,M,nF E H] 111)))
 have an:=hZ C;have z:Hid (Chg w O []):=by rw[C];exact hZ (((Chg.refl w []).alloc _).drew)
 have P:Hid (Ac O w.heap.size [nI nX k,nG p,nG f,sv,nS q D c,M,nF E H] 111):=by rw[C];exact hZ (Ac.new w _ _).drew
 clear C;refine wp_region_any Yb ?_;change wpAny _ _ _ _ _ _ _ (World.drew _);rw[<-an.o];refine Gy _ (PX (OI W w.heap.size t x ts (nS q D c) o (nF E H)) O) Yb ?_ ?_ _ ?_
 .intro ii op a wa dd d l au r b K m
  match ii,d with
  |0,d=>
   obtain rfl:=Q5 d;have h0:a.tmps.getD 0 undef= nP (nM ⟨W,0,nN⟩):=l.at 0 Yb;go_simp
   exact m _ _ Zh (b.put (by simp[OI]) cR)
  |1,d=>
   obtain rfl:=Q5 d;have S:a.tmps.getD 3 undef= nP (nM ⟨w.heap.size,0,nN⟩):=l.at 3 Yb;go_simp
   exact m _ _ Zh (b.put (by simp[OI]) cR)
  |2,d=>
   obtain rfl:=Q5 d;have hp:a.tmps.getD 6 undef= nP (nM ⟨w.heap.size,4,nN⟩):=b.2 1 (r ⟨1,.data⟩ Zh rfl);have J:=P.o.kept b.1;have K:=J.cell 4;simp only[Qa,Qb]at K;go_simp
   exact m _ _ Zh (b.put (by simp[OI]) cR)
  |3,d=>
   obtain rfl:=Q5 d;have h5:a.tmps.getD 5 undef= nP (nM ⟨W,0,nN⟩):=b.2 0 (r ⟨0,.data⟩ Zh rfl);have h7:a.tmps.getD 7 undef= nS q D c:=b.2 2 (r ⟨2,.data⟩ Zh rfl);go_simp
   go_at_call 170;refine(Q.o wa (z.o.trans b.1)).mono ?_;rintro e N ⟨i,j⟩
   cases g:Ah t ts with
   |none=>
    rw[g]at j
    dsimp only at j
    unfold By at j;subst j;unfold M6;rw[g];exact⟨l.defers,rfl,((z.o.trans b.1).trans i).none _⟩
   |some u=>
    rw[g]at j;obtain⟨rfl,S⟩:=j;exact m _ _ Zh (b.put ⟨rfl,u,g⟩ i)
  |4,d=>
   obtain rfl:=Q5 d;have S:a.tmps.getD 3 undef= nP (nM ⟨w.heap.size,0,nN⟩):=l.at 3 Yb;go_simp
   exact m _ _ Zh (b.put (by simp[OI]) cR)
  |5,d=>
   obtain rfl:=Q5 d;have hp:a.tmps.getD 9 undef= nP (nM ⟨w.heap.size,6,nN⟩):=b.2 4 (r ⟨4,.data⟩ Zh rfl);have J:=P.o.kept b.1;have K:=J.cell 6;simp only[Qa,Qb]at K;go_simp
   exact m _ _ Zh (b.put (by simp[OI]) cR)
  |6,d=>
   obtain rfl:=Q5 d;obtain⟨h8,u,g⟩:a.tmps.getD 8 undef=o/\∃u,Ah t ts=nM u:=b.2 3 (r ⟨3,.data⟩ Zh rfl)
   have ar:a.tmps.getD 10 undef= nF E H:=b.2 5 (r ⟨5,.data⟩ Zh rfl);have HS:=am.o u g wa (z.o.trans b.1);go_simp
   go_at_call 171;refine HS.mono ?_;rintro e N ⟨rfl,i⟩;exact m _ _ Zh (b.put ⟨u,g,rfl⟩ i)
  |7,d=>
   obtain rfl:=Q5 d;obtain⟨u,g,R⟩:∃u,Ah t ts=nM u/\a.tmps.getD 11 undef= .bool (BQ u x):=b.2 6 (r ⟨6,.data⟩ Zh rfl)
   cases s:BQ u x with
   |true=>
    rw[s]at R;go_simp
    go_at_call 53;refine(Bv _ _).mono ?_;rintro e N ⟨rfl,rfl⟩;exact m _ _ Zh (b.put ⟨u,g,s⟩ cR)
   |false=>
    rw[s]at R;go_simp
    go_at_call 53;refine(Bu _ _).mono ?_;rintro e N ⟨he,i⟩;unfold By at he;subst he;unfold M6;rw[g]
    dsimp only
    rw[s];exact⟨l.defers,rfl,((z.o.trans b.1).trans i).none _⟩
  |_+8,d=>exact absurd d Zh
 .intro a wR dd l Y b
  obtain⟨u,g,s⟩:∃u,Ah t ts=nM u/\BQ u x=true:=b.2 7 (Y 7 ZM)
  have HR:=UD (Chg w wR []) (z.o.trans b.1);have U:M6 t ts x= .yes t []:=by unfold M6;rw[g];dsimp only;rw[Qr s]
  have al:=hZ U;clear b Y g s U;have A:=l.form' [5,6,7,8,9,10,11,12] Yb;have Z:=l.defers;obtain⟨n,df⟩:=a;clear l
  dsimp only at A Z
  simp only[List.foldl_cons,List.foldl_nil]at A;obtain⟨u5,ag⟩:=Ue (n.getD 5 undef)
  obtain⟨u6,ah⟩:=Ue (n.getD 6 undef)
  obtain⟨u7,ai⟩:=Ue (n.getD 7 undef)
  obtain⟨u8,aj⟩:=Ue (n.getD 8 undef)
  obtain⟨u9,ak⟩:=Ue (n.getD 9 undef)
  obtain⟨u10,ad⟩:=Ue (n.getD 10 undef)
  obtain⟨u11,ae⟩:=Ue (n.getD 11 undef)
  obtain⟨u12,af⟩:=Ue (n.getD 12 undef)
  rw[<-ag,<-ah,<-ai,<-aj,<-ak,<-ad,<-ae,<-af]at A;clear ag ah ai aj ak ad ae af;simp only[List.setIfInBounds_toArray,List.set_cons_zero,List.set_cons_succ]at A;subst A;subst Z;go_wp2_with fail
  refine bodyPost_ret (results_tmp rfl _ _ _) rfl ?_;rw[al.o];exact QE HW.o HO.o HR.o
 .exact⟨Chg.refl _ _,fun _ e=>by cases e⟩
end
end Go.Proofs.YtkfnkppdhcaeoaaGreatDoor

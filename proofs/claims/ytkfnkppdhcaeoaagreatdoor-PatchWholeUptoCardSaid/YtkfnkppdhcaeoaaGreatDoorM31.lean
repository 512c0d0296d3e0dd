/- Part 31 of the proof of patchJoined_card. -/
import Derived.Test.YtkfnkppdhcaeoaaGreatDoorM30
set_option maxRecDepth 100000
set_option maxHeartbeats 32000000
set_option linter.unusedSimpArgs false
set_option linter.unusedVariables false
set_option linter.unnecessarySimpa false
namespace Go.Proofs.YtkfnkppdhcaeoaaGreatDoor
open Go renaming Calls->Cl,Value->Vl,World->Wl
section
open _root_.Go.Proofs.Tryz
open Go Go.Shelf Go.RowKit Go.Lib Tree Ptr
theorem XS(ks:List BY)(i:Nat)(s:BY)(hi:i<=ks.length):(Ad ks).insertIdx i (.string s)=Ad (ks.insertIdx i s):=by
 rw[AQ _ i (by rw[Ao];exact hi),AQ ks i hi];simp[Ad]
theorem Vj(W:Nat)(t x:Tr)(v uv vx:Vl)(bs Y:List Nat)(F:Nat->Prop)(a:Option Addr)(c:Nat)(p:List BY)(s:BY)(w:Wl)(ks:List BY)(l:List Tr)(h:Sx W t x v uv vx bs Y F (.slice a (p.length+1) c) (p++[s]) w)(Z:Ah t p=some (.obj ks l))(U:C4 ks s=false):
  Cl prog 166 #[.pointer (some ⟨W,0,none⟩),.slice a (p.length+1) c,vx] w (Cq W uv (W::(Y++bs)) t x (p++[s]) w):=by
 have ak:=Rk (s:=s) Z;have ay:p++[s]≠[]:=by simp
 have au:Ah t (p++[s]).dropLast=some (.obj ks l):=by rw[List.dropLast_concat];exact Z
 obtain⟨b,o,rfl,aK,a8,aS,b7,cH,a7⟩:=h.tat.last;have lb:=h.tat.lt b aK;obtain⟨tx,xx,rfl⟩:=h.xat.iface;obtain⟨tv,xv,rfl⟩:=h.wat.at_.iface;obtain⟨vp,bp,rest,hf⟩:=EU h.wat.at_ _ p _ rfl Z;obtain⟨k,sv,sk,vs,fs,rfl,I,ai⟩:=hf.at_.obj;have av:=h.wat.fine.lead Z;have ab:=av.good;have bd:l.length<=65536:=by have:=av.many;simp only[Ab]at this;omega
 have aW:=I.at_.length;have bf:=Ar h.xfine.fits;have aA:=Ar h.wat.fine.fits;have ag:=hZ (Dl h.laid h.wat h.tat.init hf);unfold IR at ag
 have aZ:Hid (∀A,Chg w A []->Cl prog 197 #[.pointer (some ⟨k,0,none⟩),.string s] A fun e w'=>∃i:Nat,e= .returned (.tuple #[.int .i64 i,.bool false])/\Chg A w' []/\Hr ks s i/\i<=ks.length):=hZ fun A hx=>by
  have:=Pl ks s k sv sk A (I.blk.kept hx) (I.keys.kept hx) ab.1 b7 (by omega);rwa[U]at this
 have a0:∀(w:Wl),(Instr.typeAssert (.iface 175 (.pointer (some ⟨k,0,none⟩))) 95 175 true).run prog w= .ok (.tuple #[.pointer (some ⟨k,0,none⟩),.bool true]) w:=fun _=>by kernel_rfl
 obtain⟨D,E,rfl,_⟩:=I.lst.form;obtain⟨B,C,rfl,_⟩:=I.keys.form;have lW:=h.wat.blk.lt;have cL:=I.blk.lt;have ax:=AP.lt _ _ _ h.wat.at_
 have az:∀aX l',Tr.obj ks l= .obj aX l'->C4 aX (AH (p++[s]))=false:=fun aX l' e=>by injection e with e1 e2;subst e1;rw[BE];exact U
 obtain⟨q1,q2,q3⟩:=MR (x:=x) h.wat.fine ay au (by rw[BE];rfl) az;have an:=Oy (x:=x) h.wat.fine ay au (by rw[BE];rfl) az;have aR:(p++[s]).length=p.length+1:=by simp
 rw[aR]at an;unfold NC at q2;rw[BE]at q2
 have ae:Hid (∀A,Chg w A []->Cl prog 195 #[.pointer (some ⟨W,0,none⟩),.slice (some ⟨b,o,none⟩) (p.length+1) c,.iface tx xx,.nilIface,.int .i64 s.size] A (Dh W (.iface tv xv) uv (Ag (At t (p++[s]) x)).nodes (Ag (At t (p++[s]) x)).bytes (p.length+1+(Ag x).depth) A)):=hZ fun A hx=>
  Jl W _ uv _ _ x _ _ Y 0 0 _ _ s.size _ _ c A (h.wat.blk.kept hx) (h.xat.chg hx (by simp)) h.xfine.good h.xfine.fits (.inl ⟨rfl,rfl,rfl⟩) aA.1 aA.2.1 (by omega) aS (by omega) (by omega)
 have aL:=SM Z U
 have af:∀y,y∈k::((Vl.slice B (Ad ks).length C).ownBlock.toList++(Vl.slice D vs.length E).ownBlock.toList)->y∈bs:=fun y L=>hf.perm.mem_iff.2 (by
  rw[ai];simp only[Qh,Qf]at L|-
  rcases L with h|h|h
  .exact .inl (.inl h)
  .exact .inl (.inr (.inr (.inl h)))
  .exact .inl (.inr (.inl h)))
 have aw:∀y,y∈W::k::((Vl.slice B (Ad ks).length C).ownBlock.toList++(Vl.slice D vs.length E).ownBlock.toList)->y∈W::(Y++bs):=fun y L=>by
  rcases Qh.1 L with rfl|L
  .simp
  .simp[af y L]
 have al:W∉k::((Vl.slice B (Ad ks).length C).ownBlock.toList++(Vl.slice D vs.length E).ownBlock.toList):=fun n=>by
  have:=af W n;have hn:=h.nodup;simp[this]at hn
 have aT:∀y,List.count y (k::((Vl.slice B (Ad ks).length C).ownBlock.toList++(Vl.slice D vs.length E).ownBlock.toList))<=1:=fun y=>by
  have S:=List.nodup_iff_count.1 h.nodup y;have Q:=hf.perm.count_eq y;rw[ai]at Q;simp only[List.count_cons,List.count_append]at S Q|-;omega
 have aQ:(k::((Vl.slice B (Ad ks).length C).ownBlock.toList++(Vl.slice D vs.length E).ownBlock.toList)).Nodup:=List.nodup_iff_count.2 aT
 have hH:∀u,w.heap.size<=u.heap.size->Nh u k (.slice D vs.length E) (.slice B (Ad ks).length C):=fun u hz=>by
  have aO:=List.nodup_cons.1 aQ;refine⟨by omega,fun g N=> ?_,fun g N=> ?_⟩
  .have n:g∈(Vl.slice B (Ad ks).length C).ownBlock.toList:=by rw[N];simp
   have:=ax g (af g (Qg _ (Qe _ n)));exact⟨by omega,fun e=>aO.1 (by rw[<-e];exact Qe _ n),fun e=>Cd aO.2 n (by rw[e];simp)⟩
  .have n:g∈(Vl.slice D vs.length E).ownBlock.toList:=by rw[N];simp
   have:=ax g (af g (Qg _ (Qd _ n)));exact⟨by omega,fun e=>aO.1 (by rw[<-e];exact Qd _ n)⟩
 have b6:=I.at_.one
 have aD:Hid (∀u,Chg w u [W]->Ac u k [.slice D vs.length E,.slice B (Ad ks).length C] 177/\AK u (.slice B (Ad ks).length C) 9 (Ad ks)/\AK u (.slice D vs.length E) 95 vs):=hZ fun u hc=>
  ⟨I.blk.kept hc (fun n=>by simp at n;exact al (by rw[<-n];simp)),I.keys.kept hc (fun g N n=>by simp at n;subst n;exact al (Qg _ (Qe _ (by rw[N];simp)))),
   I.lst.kept hc (fun g N n=>by simp at n;subst n;exact al (Qg _ (Qd _ (by rw[N];simp))))⟩
 have aF:Hid (∀i u P R gk cv ck,i<=l.length->Hr ks s i->Chg w u [W]->Chg u P (k::((Vl.slice B (Ad ks).length C).ownBlock.toList++(Vl.slice D vs.length E).ownBlock.toList))->
   Ac P k [.slice (some ⟨R,0,none⟩) (vs.length+1) cv,.slice (some ⟨gk,0,none⟩) (ks.length+1) ck] 177->AK P (.slice (some ⟨R,0,none⟩) (vs.length+1) cv) 95 (vs.insertIdx i (.iface tx xx))->AK P (.slice (some ⟨gk,0,none⟩) (ks.length+1) ck) 9 (Ad (ks.insertIdx i s))->
   ((Vl.slice D vs.length E).ownBlock=some R\/u.heap.size<=R)->((Vl.slice B (Ad ks).length C).ownBlock=some gk\/u.heap.size<=gk)->gk≠R->Wd w u P W k (Bz (Cj s x) t p) (.iface tv xv) (.slice D vs.length E) (.slice B (Ad ks).length C) (W::(Y++bs))):=hZ fun i u P R gk cv ck hi b3 O k2 k3 k4 k5 k6 k7 k8=>by
  obtain⟨n1,n2,n3,n4⟩:=b3.no U
  have bZ:Cj s x (.obj ks l)= .obj (ks.insertIdx i s) (l.insertIdx i x):=by
   simp only[Cj];rw[Qs (by simp[U])];exact If ab.1 ab.2.1 n1 n2 n3 n4
  exact Yu h.wat hf I ai h.nodup h.xat hi bZ O k2 k3 k4 k5 k6 k7 k8
 have aq:Hid (∀A,Chg w A (W::k::((Vl.slice B (Ad ks).length C).ownBlock.toList++(Vl.slice D vs.length E).ownBlock.toList))->Cl prog 196 #[.int .i64 2,.slice (some ⟨b,o,none⟩) (p.length+1) c,.nilIface] A (Et (AC 2 (p++[s]) []) A)):=hZ fun A hx=>by
  have ht:=h.tat.kept hx (fun y L=>h.apart y (aw y L));exact ME 2 F _ (p++[s]) A (h.laid.kept hx (fun y L=>h.big y (aw y L))) ht.row ht.lt ht.ok ht.small
 have aP:(Ag (At t (p++[s]) x)).within=true->Bt (At t (p++[s]) x):=fun V=>h.wat.fine.add h.xfine h.tat.ok ak V
 have bP:=hZ (E3 t x p s);have bJ:=hZ aL;have HH:=hZ h;have aE:=hZ hH;have a1:Hid (ks.length=l.length/\vs.length=l.length):=hZ ⟨ab.2.1,aW⟩;have cG:ks.length<=65536:=by have:=ab.2.1;omega
 have cI:vs.length<=65536:=by omega
 by_cases V:(Ag (At t (p++[s]) x)).within=true
 .rw[LS ak V]
  rw[En (by rw[an];exact V)]at ae;have bN:=hZ (aP V);have be:=Ao ks;obtain⟨ao,aV⟩:∃ao,ao=(Ad ks).length:=⟨_,rfl⟩
  have cc:=hZ (aV.trans be);rw[<-aV]at aF aq aD aE;obtain⟨m,n⟩:∃m,m=p.length:=⟨_,rfl⟩
  rw[<-n]at ag ae aq a8 aS a7|-;clear h ak ay au hf I ai av ab bd aW bf aA n Z aK az q1 q2 q3 an aR aL af aw al aT aQ hH ax aP V U be aV;go_enter func166,ntmps166
  go_wp2_with(first
   |(go_at_call 170;refine(ag.o _ (by exact cg cR)).mono ?_;rintro e w1 ⟨rfl,S⟩;have H1:Hid (Chg w w1 []):=hZ (ct cR S);have B1:Hid (Ac w1 w.heap.size Ef 42):=hZ ((Ac.new w Ef 42).kept S);clear S)
   |(go_at_call 197;refine(aZ.o _ (by exact cg H1.o)).mono ?_;rintro e w2 ⟨i,rfl,Q,h3,M⟩;have H2:Hid (Chg w w2 []):=hZ (ct H1.o Q);have B2:Hid (Ac w2 w.heap.size Ef 42):=hZ (B1.o.kept Q);have bO:=hZ h3;have bc:=M;clear Q h3 M)
   |(go_at_call 195;refine(ae.o _ (by exact cg H2.o)).mono ?_;rintro e u ⟨rfl,h3,M⟩;have bL:=hZ h3;have H3:Hid (Chg w u [W]):=hZ (ct ((H2.o.none [W])) M);have B3:Hid (Ac u w.heap.size Ef 42):=hZ (B2.o.kept M (by simp;omega));clear h3 M))
  have cF:i<=vs.length:=by have:=a1.o;omega
  obtain⟨X,aB⟩:∃y,y=u.drew:=⟨_,rfl⟩
  have bR:=hZ aB;have aC:Hid (Chg u X []):=by rw[aB];exact hZ ((Chg.refl u []).drew)
  have bH:X.heap.size=u.heap.size:=by rw[aB];rfl
  have bS:=hZ bH;have H4:Hid (Chg w X [W]):=hZ (H3.o.trans (aC.o.none _));have bI:=H4.o.size;have ad:=aE.o X bI;obtain⟨p1,p2,p3⟩:=aD.o X H4.o
  have a6:∀f,Lo X k i s (.iface tx xx) (.slice D vs.length E) (.slice B ao C) ks vs (fun _=>false) f X:=fun f=>
   ⟨Chg.refl _ _,(fun _ e=>by cases e),(fun e=>by cases e),(fun e=>by cases e),(fun e=>by cases e),(fun e=>by cases e),fun _=>p1,(fun e=>by cases e),(fun e=>by cases e),fun _=>p2,fun _=>p3,(fun e=>by cases e),(fun e=>by cases e),(fun e=>by cases e),(fun e=>by cases e)⟩
  clear aB bH;refine wp_region_any (by kernel_rfl) ?_;change wpAny _ _ _ _ _ _ _ (World.drew _);rw[<-bR.o];refine Gy _ (Lo X k i s (.iface tx xx) (.slice D vs.length E) (.slice B ao C) ks vs) (by kernel_rfl) ?_ ?_ _ ?_
  .intro ii op a wa dd j J K r d K q
   match ii,j with
   |0,j=>
    obtain rfl:=Q5 j;have aI:a.tmps.getD 10 undef= .pointer (some ⟨k,0,none⟩):=J.at 10 (by kernel_rfl);go_simp
    exact q _ _ (by simp) (d.plain (by decide) (by decide) (by decide) (by decide) (by decide) (by decide) (by simp[Ee]) cR)
   |1,j=>
    obtain rfl:=Q5 j;have aI:a.tmps.getD 10 undef= .pointer (some ⟨k,0,none⟩):=J.at 10 (by kernel_rfl);go_simp
    exact q _ _ (by simp) (d.plain (by decide) (by decide) (by decide) (by decide) (by decide) (by decide) (by simp[Ee]) cR)
   |2,j=>
    obtain rfl:=Q5 j;have aI:a.tmps.getD 10 undef= .pointer (some ⟨k,0,none⟩):=J.at 10 (by kernel_rfl);go_simp
    exact q _ _ (by simp) (d.plain (by decide) (by decide) (by decide) (by decide) (by decide) (by decide) (by simp[Ee]) cR)
   |3,j=>
    obtain rfl:=Q5 j;have cw:a.tmps.getD 91 undef= .pointer (some ⟨k,0,none⟩):=d.vals 2 (r ⟨2,.data⟩ (by simp) rfl);go_simp
    exact q _ _ (by simp) (d.plain (by decide) (by decide) (by decide) (by decide) (by decide) (by decide) (by simp[Ee]) cR)
   |4,j=>
    obtain rfl:=Q5 j;have cx:a.tmps.getD 92 undef= .pointer (some ⟨k,0,none⟩):=d.vals 3 (r ⟨3,.data⟩ (by simp) rfl);go_simp
    exact q _ _ (by simp) (d.plain (by decide) (by decide) (by decide) (by decide) (by decide) (by decide) (by simp[Ee]) cR)
   |5,j=>
    obtain rfl:=Q5 j;have cy:a.tmps.getD 93 undef= .pointer (some ⟨k,1,none⟩):=d.vals 4 (r ⟨4,.data⟩ (by simp) rfl)
    have aH:dd 21=false:=by
     cases e:dd 21 with
     |false=>rfl
     |true=>have aJ:=d.o21 e;have h:=d.o9 (d.o18 aJ).1;rw[K]at h;cases h
    have H:=d.blk0 aH;have aa:=H.cell 1;simp only[Qa,Qb]at aa;go_simp
    exact q _ _ (by simp) (d.plain (by decide) (by decide) (by decide) (by decide) (by decide) (by decide) (by simp[Ee]) cR)
   |6,j=>
    obtain rfl:=Q5 j;have bU:a.tmps.getD 11 undef= .int .i64 i:=J.at 11 (by kernel_rfl);go_simp
    exact q _ _ (by simp) (d.plain (by decide) (by decide) (by decide) (by decide) (by decide) (by decide) (by simp[Ee]) cR)
   |7,j=>
    obtain rfl:=Q5 j;have h9:a.tmps.getD 9 undef= .string s:=J.at 9 (by kernel_rfl);go_simp
    exact q _ _ (by simp) (d.plain (by decide) (by decide) (by decide) (by decide) (by decide) (by decide) (by simp[Ee]) cR)
   |8,j=>
    obtain rfl:=Q5 j;have bV:a.tmps.getD 96 undef= .string s:=d.vals 7 (r ⟨7,.data⟩ (by simp) rfl);have cB:a.tmps[96]?.getD undef= .string s:=by rw[<-Qp];exact bV
    go_simp
    exact q _ _ (by simp) d.new8
   |9,j=>
    obtain rfl:=Q5 j;have d5:=r ⟨5,.data⟩ (by simp) rfl;have cz:a.tmps.getD 94 undef= .slice B ao C:=d.vals 5 d5;have cA:a.tmps.getD 95 undef= .int .i64 i:=d.vals 6 (r ⟨6,.data⟩ (by simp) rfl);obtain⟨B,aM,aN,b0⟩:=d.r8 (r ⟨8,.data⟩ (by simp) rfl) K;have cC:a.tmps.getD 97 undef= .slice (some ⟨B,0,none⟩) 1 1:=aM;have bX:=d.keys0 K;go_simp
    go_at_call 198;refine(QS _ (.string s) B i (Ad ks) wa bX aN (fun g N e=>by have:=(ad.lk g N).1;omega) rfl (Gu ks) (by rw[Ao];exact bc) (by rw[Ao];omega)).mono ?_;rintro e w1 ⟨g,ah,rfl,O,k2,k3⟩;rw[Ao]at O|-;rw[show(Ad ks).insertIdx i (.string s)=Ad (ks.insertIdx i s)from XS ks i s bc]at O;exact q _ _ (by simp) (d.call9 ad K d5 O k2 k3)
   |10,j=>
    obtain rfl:=Q5 j;have aI:a.tmps.getD 10 undef= .pointer (some ⟨k,0,none⟩):=J.at 10 (by kernel_rfl);go_simp
    exact q _ _ (by simp) (d.plain (by decide) (by decide) (by decide) (by decide) (by decide) (by decide) (by simp[Ee]) cR)
   |11,j=>
    obtain rfl:=Q5 j;have cE:a.tmps.getD 99 undef= .pointer (some ⟨k,0,none⟩):=d.vals 10 (r ⟨10,.data⟩ (by simp) rfl);go_simp
    exact q _ _ (by simp) (d.plain (by decide) (by decide) (by decide) (by decide) (by decide) (by decide) (by simp[Ee]) cR)
   |12,j=>
    obtain rfl:=Q5 j;have cd:a.tmps.getD 100 undef= .pointer (some ⟨k,0,none⟩):=d.vals 11 (r ⟨11,.data⟩ (by simp) rfl);go_simp
    exact q _ _ (by simp) (d.plain (by decide) (by decide) (by decide) (by decide) (by decide) (by decide) (by simp[Ee]) cR)
   |13,j=>
    obtain rfl:=Q5 j;have ce:a.tmps.getD 101 undef= .pointer (some ⟨k,0,none⟩):=d.vals 12 (r ⟨12,.data⟩ (by simp) rfl);go_simp
    exact q _ _ (by simp) (d.plain (by decide) (by decide) (by decide) (by decide) (by decide) (by decide) (by simp[Ee]) cR)
   |14,j=>
    obtain rfl:=Q5 j;have cf:a.tmps.getD 102 undef= .pointer (some ⟨k,0,none⟩):=d.vals 13 (r ⟨13,.data⟩ (by simp) rfl)
    have aH:dd 21=false:=by
     cases e:dd 21 with
     |false=>rfl
     |true=>have aJ:=d.o21 e;have h:=(d.o18 aJ).2;rw[K]at h;cases h
    have H:=d.blk0 aH;have aa:=H.cell 0;simp only[Qa,Qb]at aa;go_simp
    exact q _ _ (by simp) (d.plain (by decide) (by decide) (by decide) (by decide) (by decide) (by decide) (by simp[Ee]) cR)
   |15,j=>
    obtain rfl:=Q5 j;have bU:a.tmps.getD 11 undef= .int .i64 i:=J.at 11 (by kernel_rfl);go_simp
    exact q _ _ (by simp) (d.plain (by decide) (by decide) (by decide) (by decide) (by decide) (by decide) (by simp[Ee]) cR)
   |16,j=>
    obtain rfl:=Q5 j;have Q:a.tmps.getD 2 undef= .iface tx xx:=J.at 2 (by kernel_rfl);go_simp
    exact q _ _ (by simp) (d.plain (by decide) (by decide) (by decide) (by decide) (by decide) (by decide) (by simp[Ee]) cR)
   |17,j=>
    obtain rfl:=Q5 j;have bT:a.tmps.getD 105 undef= .iface tx xx:=d.vals 16 (r ⟨16,.data⟩ (by simp) rfl);have cj:a.tmps[105]?.getD undef= .iface tx xx:=by rw[<-Qp];exact bT
    go_simp
    exact q _ _ (by simp) d.new17
   |18,j=>
    obtain rfl:=Q5 j;have a3:=r ⟨14,.data⟩ (by simp) rfl;have d9:=r ⟨9,.chain⟩ (by simp) rfl;have ch:a.tmps.getD 103 undef= .slice D vs.length E:=d.vals 14 a3;have ci:a.tmps.getD 104 undef= .int .i64 i:=d.vals 15 (r ⟨15,.data⟩ (by simp) rfl);obtain⟨B,aM,aN,b0⟩:=d.r17 (r ⟨17,.data⟩ (by simp) rfl) K;have cl:a.tmps.getD 106 undef= .slice (some ⟨B,0,none⟩) 1 1:=aM;have bY:=d.items0 K;go_simp
    go_at_call 199;refine(N5 _ (.iface tx xx) B i vs wa bY aN (fun g N e=>by have:=(ad.lv g N).1;omega) rfl b6 (by omega) (by omega)).mono ?_;rintro e w1 ⟨g,ah,rfl,O,k2,k3⟩;exact q _ _ (by simp) (d.call18 ad K d9 a3 O k2 k3)
   |19,j=>
    obtain rfl:=Q5 j;have cs:a.tmps.getD 89 undef= .pointer (some ⟨k,0,none⟩):=d.vals 0 (r ⟨0,.data⟩ (by simp) rfl);go_simp
    exact q _ _ (by simp) (d.plain (by decide) (by decide) (by decide) (by decide) (by decide) (by decide) (by simp[Ee]) cR)
   |20,j=>
    obtain rfl:=Q5 j;have cn:a.tmps.getD 108 undef= .pointer (some ⟨k,0,none⟩):=d.vals 19 (r ⟨19,.data⟩ (by simp) rfl);go_simp
    exact q _ _ (by simp) (d.plain (by decide) (by decide) (by decide) (by decide) (by decide) (by decide) (by simp[Ee]) cR)
   |21,j=>
    obtain rfl:=Q5 j;have a4:=r ⟨18,.chain⟩ (by simp) rfl;have co:a.tmps.getD 109 undef= .pointer (some ⟨k,1,none⟩):=d.vals 20 (r ⟨20,.data⟩ (by simp) rfl);obtain⟨g,ah,q1,q2,q3⟩:=d.r9 (d.o18 a4).1;have cD:a.tmps.getD 98 undef= .slice (some ⟨g,0,none⟩) (ks.length+1) ah:=q1;have H:=d.blk0 K;have aa:=H.cell 1;have b2:=H.frozen 1;simp only[Qa,Qb]at aa;have am:=d.store21 ad K a4;rw[q1]at am;go_simp
    exact q _ _ (by simp) am
   |22,j=>
    obtain rfl:=Q5 j;have cu:a.tmps.getD 90 undef= .pointer (some ⟨k,0,none⟩):=d.vals 1 (r ⟨1,.data⟩ (by simp) rfl);go_simp
    exact q _ _ (by simp) (d.plain (by decide) (by decide) (by decide) (by decide) (by decide) (by decide) (by simp[Ee]) cR)
   |23,j=>
    obtain rfl:=Q5 j;have cp:a.tmps.getD 110 undef= .pointer (some ⟨k,0,none⟩):=d.vals 22 (r ⟨22,.data⟩ (by simp) rfl);go_simp
    exact q _ _ (by simp) (d.plain (by decide) (by decide) (by decide) (by decide) (by decide) (by decide) (by simp[Ee]) cR)
   |24,j=>
    obtain rfl:=Q5 j;have cq:a.tmps.getD 111 undef= .pointer (some ⟨k,0,none⟩):=d.vals 23 (r ⟨23,.data⟩ (by simp) rfl);go_simp
    exact q _ _ (by simp) (d.plain (by decide) (by decide) (by decide) (by decide) (by decide) (by decide) (by simp[Ee]) cR)
   |25,j=>
    obtain rfl:=Q5 j;have aG:=r ⟨21,.chain⟩ (by simp) rfl;have cr:a.tmps.getD 112 undef= .pointer (some ⟨k,0,none⟩):=d.vals 24 (r ⟨24,.data⟩ (by simp) rfl);obtain⟨g,ah,q1,q2,q3,q4⟩:=d.r18 (d.o21 aG);have cm:a.tmps.getD 107 undef= .slice (some ⟨g,0,none⟩) (vs.length+1) ah:=q1;have H:=d.blk1 aG K;have aa:=H.cell 0;have b2:=H.frozen 0;simp only[Qa,Qb]at aa;have am:=d.store25 ad K aG;rw[q1]at am;go_simp
    exact q _ _ (by simp) am
   |_+26,j=>exact absurd j (by simp)
  .intro a P dd J hd d
   obtain⟨gk,ck,f1,f2,f3⟩:=d.r9 (hd 9 (by decide));obtain⟨R,cv,g1,g2,g3,g4⟩:=d.r18 (hd 18 (by decide));have H:=d.blk2 (hd 25 (by decide));rw[f1]at H g4;rw[g1]at H;have bb:gk≠R:=fun e=>g4 (by rw[e];rfl)
   have ar:=d.chg;obtain⟨a2,s1,s2,s3,s4,s5⟩:=aF.o i X P R gk cv ck (by have:=a1.o;omega) bO.o H4.o ar H g2 f2 g3 f3 bb
   have aU:∀y,y∈W::(Y++bs)->y<w.heap.size:=fun y L=>by
    rcases Qh.1 L with h|h
    .omega
    .rcases Qf.1 h with h|h
     .exact AP.lt _ _ _ HH.o.xat _ h
     .exact AP.lt _ _ _ HH.o.wat.at_ _ h
   have aY:Hid (Ac P w.heap.size Ef 42):=hZ ((B3.o.kept aC.o).kept ar (fun n=>by have:=aU _ (s4 _ (Qg _ n));omega));have bM:Hid (Ac P W [.iface tv xv,.int .i64 (Ag (At t (p++[s]) x)).nodes,.int .i64 (Ag (At t (p++[s]) x)).bytes,uv] 98):=hZ ((bL.o.kept aC.o).kept ar s5);have S1:=hZ s1;have S2:=hZ s2;have S3:=hZ s3;have S4:=hZ s4;have bQ:=hZ aU;clear d f1 f2 f3 g1 g2 g3 g4 H bb ar s1 s2 s3 s4 s5 hd aU a6 ad p1 p2 p3;have aj:=J.form' [89,90,91,92,93,94,95,96,97,98,99,100,101,102,103,104,105,106,107,108,109,110,111,112] (by kernel_rfl);have a9:=J.defers;obtain⟨z,df⟩:=a;clear J
   dsimp only at aj a9
   simp only[List.foldl_cons,List.foldl_nil]at aj;obtain⟨u89,bv⟩:∃x,x=z.getD 89 undef:=⟨_,rfl⟩
   obtain⟨u90,bw⟩:∃x,x=z.getD 90 undef:=⟨_,rfl⟩
   obtain⟨u91,bx⟩:∃x,x=z.getD 91 undef:=⟨_,rfl⟩
   obtain⟨u92,bz⟩:∃x,x=z.getD 92 undef:=⟨_,rfl⟩
   obtain⟨u93,bA⟩:∃x,x=z.getD 93 undef:=⟨_,rfl⟩
   obtain⟨u94,bB⟩:∃x,x=z.getD 94 undef:=⟨_,rfl⟩
   obtain⟨u95,bC⟩:∃x,x=z.getD 95 undef:=⟨_,rfl⟩
   obtain⟨u96,bD⟩:∃x,x=z.getD 96 undef:=⟨_,rfl⟩
   obtain⟨u97,bE⟩:∃x,x=z.getD 97 undef:=⟨_,rfl⟩
   obtain⟨u98,bF⟩:∃x,x=z.getD 98 undef:=⟨_,rfl⟩
   obtain⟨u99,bG⟩:∃x,x=z.getD 99 undef:=⟨_,rfl⟩
   obtain⟨u100,bg⟩:∃x,x=z.getD 100 undef:=⟨_,rfl⟩
   obtain⟨u101,bh⟩:∃x,x=z.getD 101 undef:=⟨_,rfl⟩
   obtain⟨u102,bi⟩:∃x,x=z.getD 102 undef:=⟨_,rfl⟩
   obtain⟨u103,bj⟩:∃x,x=z.getD 103 undef:=⟨_,rfl⟩
   obtain⟨u104,bk⟩:∃x,x=z.getD 104 undef:=⟨_,rfl⟩
   obtain⟨u105,bl⟩:∃x,x=z.getD 105 undef:=⟨_,rfl⟩
   obtain⟨u106,bm⟩:∃x,x=z.getD 106 undef:=⟨_,rfl⟩
   obtain⟨u107,bn⟩:∃x,x=z.getD 107 undef:=⟨_,rfl⟩
   obtain⟨u108,bo⟩:∃x,x=z.getD 108 undef:=⟨_,rfl⟩
   obtain⟨u109,bq⟩:∃x,x=z.getD 109 undef:=⟨_,rfl⟩
   obtain⟨u110,br⟩:∃x,x=z.getD 110 undef:=⟨_,rfl⟩
   obtain⟨u111,bt⟩:∃x,x=z.getD 111 undef:=⟨_,rfl⟩
   obtain⟨u112,bu⟩:∃x,x=z.getD 112 undef:=⟨_,rfl⟩
   rw[<-bv,<-bw,<-bx,<-bz,<-bA,<-bB,<-bC,<-bD,<-bE,<-bF,<-bG,<-bg,<-bh,<-bi,<-bj,<-bk,<-bl,<-bm,<-bn,<-bo,<-bq,<-br,<-bt,<-bu]at aj;clear bv bw bx bz bA bB bC bD bE bF bG bg bh bi bj bk bl bm bn bo bq br bt bu;simp only[List.setIfInBounds_toArray,List.set_cons_zero,List.set_cons_succ]at aj;subst aj;subst a9
   go_wp2_with(first
    |(go_at_call 196;refine(aq.o _ S3.o).mono ?_;rintro e ca h5;obtain⟨cM,ys,G,rfl,O,k2⟩:=h5.at;have K1:=hZ O;have K2:=hZ k2;obtain⟨sa,sc,rfl,_⟩:=O.row.form;clear h5 O k2)
    |(refine Ae rfl _ _ _ rfl w.heap.size (BJ (AC 2 (p++[s]) []) (.slice sa (AC 2 (p++[s]) []).steps.length sc)) (by rfl) (by rfl) 42 Ef (by exact aY.o.kept K2.o) A0 rfl (Dx _ _ _ _) ?_;intro cb b8 a5 ba;have bK:=hZ a5;have ap:=hZ ba;clear b8 a5 ba))
   have b9:w.heap.size<P.heap.size:=aY.o.lt;have b1:Chg w ca (W::(Y++bs)):=(S3.o.mono (fun y _ n=>S4.o y n)).trans (K2.o.none _);have bW:Chg w cb (W::(Y++bs)):=b1.step ap.o (fun i hi Z=>by simp at hi;omega);have U:=K1.o.kept (w0:=w) ap.o (fun b T=>by simp at T;subst T;exact b9) (by omega);have b4:=AP.lt _ _ _ S1.o;refine bodyPost_ret (Bi rfl _ _ w.heap.size 42 (BJ (AC 2 (p++[s]) []) (.slice sa (AC 2 (p++[s]) []).steps.length sc)) _ rfl bK.o underlying42 rfl A0) rfl ?_;rw[bJ.o];have cJ:=B3.o.lt;have cK:=bS.o
   have b5:w.heap.size∉a2:=fun n=>by
    rcases S2.o.come _ (Qg _ n)with h|h
    .have:=bQ.o _ h;omega
    .omega
   refine⟨.iface tv xv,a2,_,ys,G,rfl,U,⟨?_, ?_,bN.o⟩,S2.o.back bI,bW,fun b T hG=> ?_⟩
   .exact(bM.o.kept K2.o).kept ap.o (by simp;omega)
   .rw[bP.o]
    exact(S1.o.chg K2.o (by simp)).chg ap.o (fun b T n=>by simp at T;subst T;exact b5 n)
   .have S:=(K1.o.new b hG).1
    rcases Qh.1 T with rfl|T
    .omega
    .have:=b4 b T;omega
  .exact a6 _
 .rw[Hv ak (by simpa using V)]
  rw[DO (by rw[an];simpa using V)]at ae;obtain⟨m,n⟩:∃m,m=p.length:=⟨_,rfl⟩
  rw[<-n]at ag ae a8 aS a7|-;clear h ak ay au hf I ai av ab bd aW bf aA n Z aK az q1 q2 q3 an aR aL af aw al aT aQ hH ax aP V U aF aq aD aE HH;go_enter func166,ntmps166
  go_wp2_with(first
   |(go_at_call 170;refine(ag.o _ (by exact cg cR)).mono ?_;rintro e w1 ⟨rfl,S⟩;have H1:Hid (Chg w w1 []):=hZ (ct cR S);clear S)
   |(go_at_call 197;refine(aZ.o _ (by exact cg H1.o)).mono ?_;rintro e w2 ⟨i,rfl,Q,h3,M⟩;have H2:Hid (Chg w w2 []):=hZ (ct H1.o Q);clear Q h3 M)
   |(go_at_call 195;refine(ae.o _ (by exact cg H2.o)).mono ?_;rintro e u ⟨he,M⟩;unfold By at he;subst he;have H3:Hid (Chg w u []):=hZ (ct H2.o M);clear M))
  exact⟨rfl,rfl,H3.o.none _⟩
theorem Vb{p:Tr}(h:AX p=true)(s:BY):Gg s p=5:=by
 cases p<;>first|rfl|simp[AX]at h
theorem Xo(W:Nat)(t x:Tr)(v e d:Vl)(bs g:List Nat)(F:Nat->Prop)(a:Option Addr)(c:Nat)(ts:List BY)(w:Wl)(h:Sx W t x v e d bs g F (.slice a ts.length c) ts w):
  Cl prog 166 #[.pointer (some ⟨W,0,none⟩),.slice a ts.length c,d] w (Cq W e (W::(g++bs)) t x ts w):=by
 by_cases j:ts=[]
 .subst j
  exact Tv W t x v e d bs g F a c w h
 .obtain⟨b,s,rfl⟩:∃b s,ts=b++[s]:=⟨ts.dropLast,ts.getLast j,(List.dropLast_concat_getLast j).symm⟩
  have o:(b++[s]).length=b.length+1:=by simp
  rw[o]at h|-;have n:∃q y,d= .iface q y:=h.xat.iface
  cases f:Ah t b with
  |none=>
   have i:EN t (b++[s])=4:=by rw[Iz,f]
   rw[LG i (by decide)];exact Tu W t v e d bs F a c b s w _ h.laid h.wat h.tat f n
  |some p=>
   by_cases k:AX p=true
   .have i:EN t (b++[s])=5:=by rw[Iz,f];exact Vb k s
    rw[LG i (by decide)];exact Ts W t p v e d bs F a c b s w _ h.laid h.wat h.tat f k n
   .cases p with
    |list l=>exact Tt W t x v e d bs g F a c b s w l h f
    |obj ks l=>
     cases m:C4 ks s with
     |true=>exact Vk W t x v e d bs g F a c b s w ks l h f m
     |false=>exact Vj W t x v e d bs g F a c b s w ks l h f m
    |_=>simp[AX]at k
def Uu(ts:List BY)(u:Tr):Bq:=AC 3 ts (Ai u)
def Du(W:Nat)(b:Vl)(a:List Nat)(t x:Tr)(ts:List BY)(w:Wl)(e:Ending)(w':Wl):Prop:=match Ah t ts with
 |none=>AZ 4 a w e w'
 |some u=>if(Ag (AE t ts x)).within=true then ET W b a (AE t ts x) (Uu ts u) w e w' else AZ 3 a w e w'
theorem RP{W:Nat}{b:Vl}{a:List Nat}{t x:Tr}{ts:List BY}{w:Wl}(h:Ah t ts=none):Du W b a t x ts w=AZ 4 a w:=by
 funext e w';unfold Du;rw[h]
theorem J0{W:Nat}{c:Vl}{a:List Nat}{t x u:Tr}{ts:List BY}{w:Wl}(h:Ah t ts=some u)(b:(Ag (AE t ts x)).within=false):Du W c a t x ts w=AZ 3 a w:=by
 funext e w';unfold Du;rw[h];simp only;rw[Qs (by simp[b])]
theorem Pr{W:Nat}{b:Vl}{a:List Nat}{t x u:Tr}{ts:List BY}{w:Wl}(h:Ah t ts=some u)(c:(Ag (AE t ts x)).within=true):Du W b a t x ts w=ET W b a (AE t ts x) (Uu ts u) w:=by
 funext e w';unfold Du;rw[h];simp only;rw[Qr c]
theorem Im{W:Nat}{t:Tr}{v d:Vl}{bs:List Nat}{F:Nat->Prop}{c:Vl}{ts:List BY}{w:Wl}(f:Br w)(i:Hu w W t v d bs)(g:JC w F c ts)(j:Ah t ts=none):
  ∀a,Chg w a []->Cl prog 170 #[.pointer (some ⟨W,0,none⟩),c] a (fun e w'=>e=By 4/\Chg a w' []):=fun a h=>by
 have hi:=g.kept h;have b:=i.kept h;have:=LI W t v _ _ d bs F _ ts a (f.kept h) b.blk b.at_ b.fine hi.row hi.ok hi.small;rw[Jw j]at this;exact this.mono fun e w' h=>⟨h.2,h.1⟩
theorem Tz(W:Nat)(t:Tr)(v r k:Vl)(bs:List Nat)(F:Nat->Prop)(a:Option Addr)(n c:Nat)(ts:List BY)(w:Wl)(p:List Nat)(f:Br w)(h:Hu w W t v r bs)(g:JC w F (.slice a n c) ts)(j:Ah t ts=none)(o:∃q x,k= .iface q x):
  Cl prog 168 #[.pointer (some ⟨W,0,none⟩),.slice a n c,k] w (AZ 4 p w):=by
 obtain⟨u,y,rfl⟩:=o;have m:=hZ (Im f h g j);clear f h g j;go_enter func168,ntmps168
 go_wp2_with(first
  |(go_at_call 170;refine(m.o _ (by(repeat(first|exact Chg.refl w []|with_reducible refine c1 ?_ _|with_reducible refine c2 ?_|with_reducible refine c3 ?_ _|with_reducible refine c4 ?_ _ _ (by simp)|with_reducible refine c4 ?_ _ _ (by simp;omega))))).mono ?_;rintro e s ⟨i,d⟩;unfold By at i;subst i;have l:Hid (Chg w s []):=hZ (Chg.trans (b:=_) (by(repeat(first|exact Chg.refl w []|with_reducible refine c1 ?_ _|with_reducible refine c2 ?_|with_reducible refine c3 ?_ _|with_reducible refine c4 ?_ _ _ (by simp)|with_reducible refine c4 ?_ _ _ (by simp;omega)))) d);clear d))
 exact⟨rfl,rfl,l.o.none _⟩
theorem TA(W:Nat)(t x:Tr)(v C vx:Vl)(bs u:List Nat)(F:Nat->Prop)(a:Option Addr)(c:Nat)(w:Wl)(h:Sx W t x v C vx bs u F (.slice a 0 c) [] w):
  Cl prog 168 #[.pointer (some ⟨W,0,none⟩),.slice a 0 c,vx] w (Du W C (W::(u++bs)) t x [] w):=by
 have z:Ah t []=some t:=rfl;have y:AE t [] x=x:=rfl;have aj:=h.wat.blk.lt;obtain⟨L,N,rfl⟩:=h.xat.iface;obtain⟨K,M,rfl⟩:=h.wat.at_.iface;have V:=Ar h.xfine.fits;have A:=Ar h.wat.fine.fits;have P:=hZ (Dl h.laid h.wat h.tat (Ir.here h.wat.at_))
 have s:Hid (∀g,Chg w g []->Cl prog 195 #[.pointer (some ⟨W,0,none⟩),.slice a 0 c,.iface L N,.iface K M,.int .i64 0] g (Dh W (.iface K M) C (Ag x).nodes (Ag x).bytes (0+(Ag x).depth) g)):=hZ fun g l=>
  Jl W _ C _ _ x _ _ u _ _ (Ag x).nodes (Ag x).bytes 0 a 0 c g (h.wat.blk.kept l) (h.xat.chg l (by simp)) h.xfine.good h.xfine.fits (h.wat.was.kept l) A.1 A.2.1 (by omega) (by omega) (by omega) (by omega)
 have I:W∉bs:=fun n=>by have:=h.nodup;simp[n]at this
 have ad:Hid (∀g,Chg w g [W]->Cl prog 196 #[.int .i64 3,.slice a 0 c,.iface K M] g (Et (AC 3 [] (Ai t)) g)):=hZ fun g l=>by
  have B:=h.tat.kept l (fun b d=>by simp at d;subst d;exact h.apart b (by simp));exact DE 3 F _ [] t _ bs g (h.laid.kept l (fun b d=>by simp at d;subst d;exact h.big b (by simp))) B.row B.lt B.ok B.small h.wat.fine (h.wat.at_.chg l (fun b d=>by simp at d;subst d;exact I))
 have m:=hZ h;rw[Nat.zero_add]at s;by_cases o:(Ag x).within=true
 .rw[Pr z (by rw[y];exact o)]
  rw[En (by rw[E6];exact o)]at s;have al:W≠w.heap.size:=by omega
  clear h z y V A o I;go_enter func168,ntmps168
  go_wp2_with(first
   |(go_at_call 170;refine(P.o _ (by(repeat(first|exact Chg.refl w []|with_reducible refine c1 ?_ _|with_reducible refine c2 ?_|with_reducible refine c3 ?_ _|with_reducible refine c4 ?_ _ _ (by simp)|with_reducible refine c4 ?_ _ _ (by simp;omega))))).mono ?_;rintro e D ⟨rfl,f⟩;have r:Hid (Chg w D []):=hZ (Chg.trans (b:=_) (by(repeat(first|exact Chg.refl w []|with_reducible refine c1 ?_ _|with_reducible refine c2 ?_|with_reducible refine c3 ?_ _|with_reducible refine c4 ?_ _ _ (by simp)|with_reducible refine c4 ?_ _ _ (by simp;omega)))) f);have B9:Hid (Ac D w.heap.size Ef 42):=hZ ((Ac.new w Ef 42).kept f);clear f)
   |(go_at_call 195;refine(s.o _ (by(repeat(first|exact r.o|with_reducible refine c1 ?_ _|with_reducible refine c2 ?_|with_reducible refine c3 ?_ _|with_reducible refine c4 ?_ _ _ (by simp)|with_reducible refine c4 ?_ _ _ (by simp;omega))))).mono ?_;rintro e p ⟨rfl,f,k⟩;have aa:=hZ f;have q:Hid (Chg w p [W]):=hZ (Chg.trans (b:=_) (by(repeat(first|exact(r.o.none [W])|with_reducible refine c1 ?_ _|with_reducible refine c2 ?_|with_reducible refine c3 ?_ _|with_reducible refine c4 ?_ _ _ (by simp)|with_reducible refine c4 ?_ _ _ (by simp;omega)))) k);have O:Hid (Ac p w.heap.size Ef 42):=hZ (B9.o.kept k (by simp;omega));have d0:=f.cell 0;have f0:∀j,p.frozen? ⟨W,j,none⟩=false:=fun j=>f.frozen j;have am:=f.lt;simp only[Qa]at d0;clear f k)
   |(go_at_call 196;refine(ad.o _ (by(repeat(first|exact q.o|with_reducible refine c1 ?_ _|with_reducible refine c2 ?_|with_reducible refine c3 ?_ _|with_reducible refine c4 ?_ _ _ (by simp)|with_reducible refine c4 ?_ _ _ (by simp;omega))))).mono ?_;rintro e w2 k;obtain⟨sv,ys,G,rfl,J,Y⟩:=k.at;have Q:=hZ J;have H:=hZ Y;obtain⟨Z,sc,rfl,_⟩:=J.row.form;clear k J Y)
   |(refine Ae rfl _ _ _ rfl w.heap.size (BJ (AC 3 [] (Ai t)) (.slice Z (AC 3 [] (Ai t)).steps.length sc)) (by rfl) (by rfl) 42 Ef (by exact(O.o.set_other _ _ (by simp only;omega)).kept H.o) A0 rfl (Dx _ _ _ _) ?_;intro w6 X S U;have ai:=hZ X;have ab:=hZ S;have E:=hZ U;clear X S U))
  have ah:=q.o.size;have af:Chg w w2 [W]:=Chg.trans (b:=_) (q.o.setCell _ _ (by simp)) (H.o.none _);have R:Chg w w6 [W]:=af.step E.o (fun i hi hl=>by simp at hi;omega);have ae:W∉u:=fun n=>by have:=m.o.nodup;simp[n]at this
  have ag:=AP.lt _ _ _ m.o.xat;have ak:=m.o.wat.blk.lt;have hk:=Q.o.kept (w0:=w) E.o (fun b d=>by simp at d;subst d;simpa using O.o.lt) (by simpa using ah)
  refine bodyPost_ret (Bi rfl _ _ w.heap.size 42 (BJ (AC 3 [] (Ai t)) (.slice Z (AC 3 [] (Ai t)).steps.length sc)) _ rfl ab.o underlying42 rfl A0) rfl
   ⟨.iface L N,u,_,ys,G,rfl,hk,⟨?_,m.o.xat.chg R (fun b d=>by simp at d;subst d;exact ae),m.o.xfine⟩, ?_,R.mono (fun _ _ n=>by simp at n;simp[n]),fun b d hG=> ?_⟩
  .exact(((aa.o.set 0 (.iface L N)).kept H.o).kept E.o (by simp;omega))
  .exact(DJ.refl m.o.nodup).sub (List.Sublist.cons_cons _ (List.sublist_append_left _ _))
  .have f:=(Q.o.new b hG).1
   have k:p.heap.size<=b:=by simpa using f
   rcases Qh.1 d with rfl|d
   .omega
   .have:=ag b d;omega
 .rw[J0 z (by rw[y];simpa using o)]
  rw[DO (by rw[E6];simpa using o)]at s;clear h z y V A o I;go_enter func168,ntmps168
  go_wp2_with(first
   |(go_at_call 170;refine(P.o _ (by(repeat(first|exact Chg.refl w []|with_reducible refine c1 ?_ _|with_reducible refine c2 ?_|with_reducible refine c3 ?_ _|with_reducible refine c4 ?_ _ _ (by simp)|with_reducible refine c4 ?_ _ _ (by simp;omega))))).mono ?_;rintro e D ⟨rfl,f⟩;have r:Hid (Chg w D []):=hZ (Chg.trans (b:=_) (by(repeat(first|exact Chg.refl w []|with_reducible refine c1 ?_ _|with_reducible refine c2 ?_|with_reducible refine c3 ?_ _|with_reducible refine c4 ?_ _ _ (by simp)|with_reducible refine c4 ?_ _ _ (by simp;omega)))) f);clear f)
   |(go_at_call 195;refine(s.o _ (by(repeat(first|exact r.o|with_reducible refine c1 ?_ _|with_reducible refine c2 ?_|with_reducible refine c3 ?_ _|with_reducible refine c4 ?_ _ _ (by simp)|with_reducible refine c4 ?_ _ _ (by simp;omega))))).mono ?_;rintro e p ⟨T,k⟩;unfold By at T;subst T;have q:Hid (Chg w p []):=hZ (Chg.trans (b:=_) (by(repeat(first|exact r.o|with_reducible refine c1 ?_ _|with_reducible refine c2 ?_|with_reducible refine c3 ?_ _|with_reducible refine c4 ?_ _ _ (by simp)|with_reducible refine c4 ?_ _ _ (by simp;omega)))) k);clear k))
  exact⟨rfl,rfl,q.o.none _⟩
end
end Go.Proofs.YtkfnkppdhcaeoaaGreatDoor

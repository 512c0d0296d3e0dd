/- Part 1 of the proof of patchBack_card. -/
import Derived.Test.YtkfnkppdhcaeoaaGreatDoorM28
set_option maxRecDepth 100000
set_option maxHeartbeats 32000000
set_option linter.all false
namespace Go.Proofs.YtkfnkppdhcaeoaaGreatDoor
open Go renaming Calls->Cl,Value->Vl,World->Wl
section
open _root_.Go.Proofs.Tryz
open Go Go.Shelf Go.RowKit Go.Lib Tree Ptr
theorem F2(l:List Ap)(O:List Bq)(V so:Vl)(xs ys:List Vl)(w:Wl)(hL:Br w)(bw:dM w)(bs:10<=w.heap.size)(hS:aq w V l xs)(hA:UG w so O ys)(bL:∀o∈O,o.path.size<=1048576/\o.frm.size<=1048576):
  Cl prog 10 #[V,so] w (BU true w):=by
 have HM:=hZ (WL l V xs w hS.row hS.at_ hS.small hS.many);have HL:=hZ hL;have aA:=hZ bw;have ag:=hZ bL;have ad:=hZ bs;have HA:=hZ hA;obtain⟨dN,dO,rfl,_⟩:=hS.row.form;obtain⟨bb,bc,rfl,_⟩:=hA.row.form;have cZ:=hA.many;obtain⟨ln,bF⟩:=Ue l.length
 obtain⟨no,aX⟩:=Ue O.length
 have R:=hZ aX;rw[<-bF]at HM|-;rw[<-aX]at cZ|-;clear hL bw bL bs hS hA bF aX
 cases aD:AS l with
 |none=>
  rw[aD]at HM;clear aD HA R aA ag;go_enter func10,ntmps10
  go_wp2_with fail
  refine HM.o.mono ?_;rintro e Z ⟨rfl,B⟩;have H1:=hZ B;clear B
  go_wp2_with(first
   |(refine Ae rfl _ _ _ rfl Z.heap.size zV ZN ZN 29 zV (BD _ _ zV _ _ rfl rfl) A9 rfl Ya ?_;intro w2 ba aC an;have k:=UD (Chg w w2 []) (H1.o.trans (Chg.step (b:=_) (by exact cg cR) an (fun i hi hl=>by simp at hi;omega)));clear ba aC an)
   |(go_at_call 13;refine(Ko w2 (HL.o.kept k.o) (Q7 ad.o k.o.size)).mono ?_;rintro e D ⟨rfl,y⟩;have E:=hZ (k.o.trans y);clear y))
  go_ret
  exact⟨rfl,E.o⟩
 |some t=>
  rw[aD]at HM;clear aD;go_enter func10,ntmps10
  go_wp2_with fail
  refine HM.o.mono ?_;rintro e Z ⟨⟨F,Fn,cs,tb,rfl,T,bv,hT,bu,bC⟩,B⟩;have H1:=hZ B;have HT:=hZ hT;have HV:=hZ T;have da:=UD (∀b,F b->b<Z.heap.size) (fun b C=>(bv b C).2);have ax:=UD (∀b,Fn b->b<Z.heap.size) (fun b C=>(bu b C).2);have aw:=hZ bC;have cr:=UD ((prog.info? 29).map (·.size)=some cs.length) (by rw[(E7 T).2];exact A9);have cu:=hZ (E7 T).1;have cH:=UD (zV.length=cs.length) (by rw[(E7 T).2];rfl);clear B T bv hT bu bC;go_wp2_with(refine Ae rfl _ _ _ rfl Z.heap.size cs ZN ZN 29 zV (BD _ _ zV _ _ rfl rfl) cr.o cH.o cu.o ?_;intro w2 ba aC an;have c9:=hZ aC;have aj:=UD (Chg Z w2 []) (Chg.step (b:=_) (by exact cg cR) an (fun i hi hl=>by simp at hi;omega));clear ba aC an)
  have k:=UD (Chg w w2 []) (H1.o.trans aj.o);have aS:=UD (∀f,Chg w2 f []->Cl prog 13 #[] f (BU true f)) fun f n=>Ko f (HL.o.kept (k.o.trans n)) (Q7 ad.o (k.o.trans n).size)
  have av:=UD (UG w2 (.slice bb O.length bc) O ys) (HA.o.kept k.o);have cd:=gG (HL.o.kept k.o) (Q7 ad.o k.o.size) av.o (HT.o.kept aj.o ax.o) (fun b C=>Q6 (ax.o b C) aj.o.size) aw.o;have a7:=gC (HL.o.kept k.o) (Q7 ad.o k.o.size) (aA.o.kept k.o) av.o ag.o;rw[<-R.o]at cd a7;have aQ:=hZ a7;clear a7
  rcases cd with⟨al,ao⟩|⟨t1,u,c0,hr,bA,al,ao⟩
  have ae:=hZ al;have J:=hZ ao;clear al ao
  go_wp2_with(first
   |(go_at_call 15;refine(ae.o w2 cR).mono ?_;rintro e D ⟨ti,x,rfl,y⟩;have E:=hZ y;clear y)
   |(go_at_call 21;refine(J.o D E.o).mono ?_;rintro e w5 ⟨dQ,x2,rfl,h5⟩;have H5:=UD (Chg w2 w5 []) (E.o.trans h5);clear h5))
  clear ae J E
  rotate_left
  have ae:=hZ al;have J:=hZ ao;have bg:=hZ bA;have ak:=hZ hr;have a8:=Sa hr;clear al ao bA hr;by_cases aG:65536<u.length
  .have hd:decide ((32768:Int)<(no:Int))=true:=decide_eq_true (by have:=R.o;simp at a8;omega)
   clear a8;have J:=UD (∀f,Chg w2 f []->Cl prog 21 #[.pointer (some ⟨tb,0,none⟩),.slice bb no bc] f fun e w'=>e= .returned (.tuple #[.slice none 0 0,.iface 50 (.int .i64 3)])/\Chg f w' []) fun f n=>(J.o f n).mono fun e w' h=>by unfold Jz at h;simp only at h;rw[Qr aG]at h;exact h
   clear aG
   go_wp2_with(first
    |(go_at_call 15;refine(ae.o w2 cR).mono ?_;rintro e D ⟨aa,ab,rfl,_,_,y,_⟩;have E:=hZ y;clear y)
    |(go_at_call 21;refine(J.o D E.o).mono ?_;rintro e w5 ⟨rfl,h5⟩;have H5:=UD (Chg w2 w5 []) (E.o.trans h5);clear h5)
    |(go_at_call 13;refine(aS.o w5 H5.o).mono ?_;rintro e w6 ⟨rfl,h6⟩;have P:=UD (Chg w2 w6 []) (H5.o.trans h6);clear h6))
   go_ret
   exact⟨rfl,k.o.trans P.o⟩
  have bk:=UD (u.length<=65536) Zj
  have J:=UD (∀f,Chg w2 f []->Cl prog 21 #[.pointer (some ⟨tb,0,none⟩),.slice bb no bc] f fun e w'=>∃ua uc xs G,e= .returned (.tuple #[.slice ua u.length uc,.nilIface])/\EW f w' (u.map CW.toI) (.slice ua u.length uc) xs G/\Chg f w' []) fun f n=>(J.o f n).mono fun e w' h=>by
   unfold Jz at h;simp only at h;rw[Qs aG]at h;obtain⟨V,xs,G,rfl,S,hc⟩:=h;obtain⟨ua,uc,rfl,_⟩:=S.row.form;rw[List.length_map]at S|-;exact⟨ua,uc,xs,G,rfl,S,hc⟩
  obtain⟨nu,bG⟩:=Ue u.length
  rw[<-bG]at J;have az:=hZ (fK aw.o (fun o c=>⟨(HA.o.small o c).toB,(ag.o o c).1,(ag.o o c).2⟩) (fun r hr=>(by cases hr)) ak.o)
  have bf:=UD (∀(aa:Nat->Prop) (ab:Nat) (D w4:Wl) (V:Vl) (xs:List Vl) (G:Nat->Prop),Chg w2 D []->CG D aa ab t1->(∀b,aa b->b<D.heap.size)->Chg D w4 []->EW D w4 (u.map CW.toI) V xs G->Cl prog 15 #[.pointer (some ⟨ab,0,none⟩),V] w4 (F9 t w4)) fun aa ab D w4 V xs G bt B h2 aB y=>by
   obtain⟨U,hU⟩:=Su aw.o (fun o c=>(HA.o.small o c).toB) ak.o;have L:=IB aa ab t1 (u.map CW.toI) V xs w4 ⟨HL.o.kept ((k.o.trans bt).trans aB),Q7 ad.o ((k.o.trans bt).trans aB).size,B.kept aB h2,fun b C=>Q6 (h2 b C) aB.size,bg.o,y.row,y.ops.toIn,(fun o c=>by obtain⟨r,hr,rfl⟩:=List.mem_map.1 c;exact(az.o r hr).ops),by rw[List.length_map];exact bk.o⟩;rw[hU]at L;exact L
  clear aG a8 c0 bG
  go_wp2_with(first
   |(go_at_call 15;have dK:=H4.o;refine(bf.o aa ab D w4 _ c5 cU E.o ar.o ai.o be.o Q.o).mono ?_;rintro e ck ⟨cO,c2,rfl,q1,q2,q3,_⟩;have cj:=hZ q1;have ch:=hZ q2;have au:=UD (Chg w2 ck []) (H4.o.trans q3);clear q1 q2 q3)
   |(go_at_call 15;refine(ae.o w2 cR).mono ?_;rintro e D ⟨aa,ab,rfl,g1,g2,y,_⟩;have ar:=hZ g1;have ai:=hZ g2;have E:=hZ y;clear g1 g2 y)
   |(go_at_call 21;refine(J.o D E.o).mono ?_;rintro e w4 ⟨ua,uc,c5,cU,rfl,S,L⟩;have Q:=hZ S;have be:=hZ L;have H4:=UD (Chg w2 w4 []) (E.o.trans L);clear S L)
   |(go_at_call 23;refine(OL cO Fn c2 tb t ck cj.o (HT.o.kept (aj.o.trans au.o) ax.o) ch.o (fun b C=>Q6 (ax.o b C) (aj.o.trans au.o).size) aw.o).mono ?_;rintro e w5 ⟨rfl,h5⟩;have H5:=UD (Chg w2 w5 []) (au.o.trans h5);clear h5))
  clear ae bf J az bk ak bg Q ar ai cj ch E be H4 au
  all_goals
   rcases aQ.o with bP|⟨cY,h0,bK,bB,bQ⟩
   .have cA:=hZ bP
    clear bP aQ;refine(cA.o w5 H5.o).mono ?_;rintro e w6 ⟨dR,x3,rfl,h6⟩;have P:=UD (Chg w2 w6 []) (H5.o.trans h6);clear h6;go_wp2_with((go_at_call 13;refine(aS.o w6 P.o).mono ?_;rintro e w7 ⟨rfl,h7⟩;have H7:=UD (Chg w2 w7 []) (P.o.trans h7);clear h7))
    go_ret
    exact⟨rfl,k.o.trans H7.o⟩
   .have cC:=hZ bQ
    have H0:=hZ h0;have cw:=hZ bK;have bh:=hZ bB;clear bQ h0 bK bB aQ;refine(cC.o w5 H5.o).mono ?_;rintro e w6 ⟨cQ,td,rfl,g1,g2,h6,_⟩;have ar:=hZ g1;have ai:=hZ g2;have P:=UD (Chg w2 w6 []) (H5.o.trans h6);clear g1 g2 h6;have aP:=hZ (gA (HL.o.kept (k.o.trans P.o)) (aA.o.kept (k.o.trans P.o)) ar.o ai.o bh.o H0.o);rw[<-R.o]at aP;go_wp2_with fail
    refine aP.o.mono ?_;rintro e w7 ⟨ra,rc,xr,db,rfl,S,h7⟩;have Q:=hZ S;have cm:=hZ h7;have H7:=UD (Chg w2 w7 []) (P.o.trans h7);clear S h7 aP;go_wp2_with fail
    go_loopw [103] (fun bd wr=>∃i:Nat,i<=no/\bd= .int .i64 i/\Chg w7 wr []) (fun bd _=>no-(intOf bd).toNat)
    case atStart=>exact⟨0,Zj,rfl,Chg.refl _ _⟩
    case round=>
     obtain⟨i,hi,rfl,hc⟩:=hrel;have H:=hZ hc;clear hc;by_cases dH:i<no
     .obtain⟨o,c⟩:∃o,O[i]? =some o:=⟨_,Q9 (by have:=R.o;omega)⟩
      have aZ:=Qi c;have aU:=H0.o o aZ;have bJ:=HA.o.small o aZ;have bD:=(EK aU).1;have c8:=UD (Chg w wr []) ((k.o.trans H7.o).trans H.o);have a0:=av.o.row;have aF:0<O.length:=by have:=R.o;omega
      obtain⟨ob,oo,rfl,_⟩:=a0.base aF ZM;obtain⟨sv,zs,a5,bN,ap⟩:=Cc.item a0 aF av.o.at_ c;obtain⟨va,vc,rfl,_⟩:=a5.form;have a4:=Q.o.row;rw[List.length_map]at a4;obtain⟨rb,ro,rfl,_⟩:=As.base (m:=no) a4 aF ZM;rw[R.o]at Q;obtain⟨dP,dS,a6,bO,bH⟩:=gB Q.o c;rw[<-R.o]at Q;obtain⟨X,Y,rfl,_⟩:=a6.form;obtain⟨I,aV⟩:=Ue ((fy o).frm)
      obtain⟨N,aY⟩:=Ue ((fy o).steps.length)
      have aW:I=Dz\/I=o.frm:=by rw[aV];exact fL
      have bI:∀j v,([.int .i64 o.kind,.string o.path,.string I,.slice X N Y]:List Vl)[j]? =some v->w7.cell? ⟨rb,ro+i*4+j,none⟩=some v:=fun j v T=>bH j v (by unfold BJ;rw[fJ bD.1,<-aV,<-aY];exact T)
      have cv:=UD (wr.rangeAt rb (ro+i*4) [.int .i64 o.kind,.string o.path,.string I,.slice X N Y]) fun j v T=>H.o.keeps (bI j v T)
      have hq:Chg w2 wr []:=H7.o.trans H.o;have bo:wr.cell? ⟨ob,oo+i*4,none⟩=some (.int .i64 o.kind):=hq.keeps (ap 0 _ rfl);have cL:wr.cell? ⟨ob,oo+i*4+1,none⟩=some (.string o.path):=hq.keeps (ap 1 _ rfl);have cI:wr.cell? ⟨ob,oo+i*4+2,none⟩=some (.string o.frm):=hq.keeps (ap 2 _ rfl);have bp:wr.cell? ⟨ob,oo+i*4+3,none⟩=some (.slice va o.steps.length vc):=hq.keeps (ap 3 _ rfl);have az:=hZ (a5.kept hq);have cz:=hZ (Az.kept hq bN);have bi:=hZ (a6.kept H.o);have bj:=hZ (Az.kept H.o bO);have cn:=hZ aU;have aN:=hZ bJ;have aM:=hZ aY;clear c aZ aU bJ bD a0 aF a5 bN ap a4 a6 bO bH bI aV hq aY;have dJ:(o.path.toList==o.path.toList)=true:=Zh
      have dD:(0:Int)<=(i:Int):=Zj
      have dE:(i:Int)<(no:Int):=Zj
      have c1:=World.block_lt_of_cell? wr _ bo;by_cases am:I=Dz
      have cX:(I.toList==[])=true:=by rw[am,beq_iff_eq,Lib.toList_data];rfl
      clear am aW
      rotate_left
      have dG:(I.toList==o.frm.toList)=true:=by rw[aW.resolve_left am];simp
      have cX:(I.toList==[])=false:=by
       have y:¬I.toList=[]:=fun e=>am (by rw[Lib.toList_data]at e;exact ByteArray.ext (Array.toList_inj.1 e))
       simpa using y
      clear am aW
      all_goals
       go_wp2_with(refine wpList_load_mid rfl _ _ rfl rb (ro+i*4) (by go_num) _ _ cv.o underlying42 rfl ZN ?_)
       go_quiet(fail)
       go_wp2_with fail
       have dI:0<N:=Zj
       have hu:AN o.kind=true:=by
        cases hc:AN o.kind with
        |true=>rfl
        |false=>have h:=aM.o;rw[fE hc]at h;simp at h;omega
       obtain⟨x,ce,aE,aI,cf⟩:=fz cn.o aN.o.steps hu;have ay:=hZ aE;have cE:=hZ aI
       have co:=UD (∀f,Chg wr f []->Cl prog 28 #[.slice X N Y] f (cP x f)) fun f n=>by
        have:=cS (bi.o.kept n) (Az.kept n bj.o) (by rw[aI];exact KI aE) (by rw[aI,Ju];have:=(Ar aE.fits).1;omega) cf;rw[<-aM.o]at this;exact this
       have cp:=UD (∀f,Chg wr f []->Cl prog 28 #[.slice va o.steps.length vc] f (cP x f)) fun f n=>cS (az.o.kept n) (Az.kept n cz.o) aN.o.steps aN.o.len ce
       obtain⟨wc,aH⟩:=Ue (World.drewN (wr.alloc (.cells #[.int .i64 o.kind,.string o.path,.string I,.slice X N Y] 42)) nq)
       have cF:Hid (Ac wc wr.heap.size [.int .i64 o.kind,.string o.path,.string I,.slice X N Y] 42):=by rw[aH];exact hZ ((Ac.new wr [.int .i64 o.kind,.string o.path,.string I,.slice X N Y] _).drewN _)
       have bm:Hid (Chg wr wc []):=by rw[aH];exact hZ (((Chg.refl wr []).alloc _).drewN _)
       rw[<-aH];clear aH ce aE aI cf hu c1;refine(co.o wc bm.o).mono ?_;rintro e wd ⟨bq,W,rfl,a1,a2,a3⟩;have ci:=hZ a1;have aJ:=hZ a2;have aR:=UD (Chg wr wd []) (bm.o.trans a3);have bn:=hZ (cF.o.kept a3);obtain⟨y1,y2,y3,y4,y5,y6⟩:=Ac.cells4 bn.o;have cM:=aR.o.keeps bp;clear a1 a2 a3 bo cL cI bp;go_wp2_with((go_at_call 28;refine(cp.o wd aR.o).mono ?_;rintro e we ⟨cN,tc,rfl,b1,b2,b3⟩;have c3:=hZ b1;have NE:=hZ b2;have cq:=hZ b3;clear b1 b2 b3 y1 y2 y3 y4 y5 y6 cM))
       obtain⟨w0,a9⟩:=Ue (World.drew we)
       have bl:=hZ a9;have aL:Hid (Chg we w0 []):=by rw[a9];exact hZ (Chg.refl we []).drew
       have af:=UD (Chg wd w0 []) (cq.o.trans aL.o);have cG:=hZ (bn.o.kept af.o);have aO:=UD (Chg wr w0 []) (aR.o.trans af.o)
       have cx:=UD (∀f,Chg w0 f []->Cl prog 23 #[.pointer (some ⟨W,0,none⟩),.pointer (some ⟨tc,0,none⟩)] f (BU true f)) fun f n=>
        OL bq cN W tc x f (ci.o.kept (af.o.trans n) aJ.o) (c3.o.kept (aL.o.trans n) NE.o) (fun b C=>Q6 (aJ.o b C) (af.o.trans n).size) (fun b C=>Q6 (NE.o b C) (aL.o.trans n).size) ay.o
       have cB:=UD (∀f,Chg w0 f []->Cl prog 38 #[.pointer (some ⟨W,0,none⟩)] f (cJ x f)) fun f n=>
        (TY bq W x f (ci.o.kept (af.o.trans n) aJ.o) (fun b C=>Q6 (aJ.o b C) (af.o.trans n).size) (by have:=(Ar ay.o.fits).1;omega)).mono fun e w' h=>cK h
       have cy:=UD (∀f,Chg w0 f []->DX f (.slice X N Y) (MW x)) fun f n=>by
        have B:=bi.o.kept (aO.o.trans n);have h2:=Az.kept (aO.o.trans n) bj.o;have y:=aM.o;rw[cE.o]at B h2 y;rw[<-y]at B;rw[y]at B|-;exact SL B h2
       have ct:=UD (∀s∈MW x,s.keys.length<=4294967296) fun s hs=>by have:=(KI ay.o s hs).keys;omega
       clear a9;refine wp_region_any Yb ?_;change wpAny _ _ _ _ _ _ _ (World.drew _);rw[<-bl.o];refine Dg _ (gc x W tc wr.heap.size (.slice X N Y) w0) Yb ?_ ?_ _ ?_
       .intro ii op a wa dd c M dL g dF d K z
        match ii,c with
        |0,c=>
         obtain rfl:=Q5 c;have dA:a.tmps.getD 19 undef= .nilIface:=M.at 19 Yb;rw[Qr (by simp[Region.wanted])];go_simp
         exact z _ _ Zh (d.put ZM (by simp[gF]) cR)
        |1,c=>
         obtain rfl:=Q5 c;have dc:a.tmps.getD 160 undef= .nilIface:=d.vals 0 (g ⟨0,.data⟩ Zh rfl);rw[Qr (by simp[Region.wanted])];go_simp
         exact z _ _ Zh (d.put ZM (by simp[gF]) cR)
        |2,c=>
         obtain rfl:=Q5 c;have de:a.tmps.getD 161 undef= .bool false:=d.vals 1 (g ⟨1,.data⟩ Zh rfl);rw[Qr (by simp[Region.wanted])];go_simp
         exact z _ _ Zh (d.put ZM (by simp[gF]) cR)
        |3,c=>
         obtain rfl:=Q5 c;have dC:a.tmps.getD 21 undef= .nilIface:=M.at 21 Yb;rw[Qr (Cw rfl ZN (d.vals 2 (g ⟨2,.guard⟩ Zh rfl)))];go_simp
         exact z _ _ Zh (d.put ZM (by simp[gF]) cR)
        |4,c=>
         obtain rfl:=Q5 c;have dh:a.tmps.getD 163 undef= .nilIface:=d.vals 3 (g ⟨3,.data⟩ Zh rfl);rw[Qr (Cw rfl ZN (d.vals 2 (g ⟨2,.guard⟩ Zh rfl)))];go_simp
         exact z _ _ Zh (d.put ZM (by simp[gF]) cR)
        |5,c=>
         obtain rfl:=Q5 c;have dg:a.tmps.getD 162 undef= .bool false:=d.vals 2 (g ⟨2,.data⟩ Zh rfl);have di:a.tmps.getD 164 undef= .bool false:=d.vals 4 (g ⟨4,.data⟩ Zh rfl);rw[Qr (by simp[Region.wanted])];go_simp
         exact z _ _ Zh (d.put ZM (by simp[gF]) cR)
        |6,c=>
         obtain rfl:=Q5 c;have dj:a.tmps.getD 165 undef= .bool false:=d.vals 5 (g ⟨5,.data⟩ Zh rfl);rw[Qr (by simp[Region.wanted])];go_simp
         exact z _ _ Zh (d.put ZM (by simp[gF]) cR)
        |7,c=>
         obtain rfl:=Q5 c;have cV:a.tmps.getD 18 undef= .pointer (some ⟨W,0,none⟩):=M.at 18 Yb;rw[Qr (Cw rfl ZN (d.vals 6 (g ⟨6,.guard⟩ Zh rfl)))];go_simp
         exact z _ _ Zh (d.put ZM (by simp[gF]) cR)
        |8,c=>
         obtain rfl:=Q5 c;have dB:a.tmps.getD 20 undef= .pointer (some ⟨tc,0,none⟩):=M.at 20 Yb;rw[Qr (Cw rfl ZN (d.vals 6 (g ⟨6,.guard⟩ Zh rfl)))];go_simp
         exact z _ _ Zh (d.put ZM (by simp[gF]) cR)
        |9,c=>
         obtain rfl:=Q5 c;have dl:a.tmps.getD 167 undef= .pointer (some ⟨W,0,none⟩):=d.vals 7 (g ⟨7,.data⟩ Zh rfl);have dm:a.tmps.getD 168 undef= .pointer (some ⟨tc,0,none⟩):=d.vals 8 (g ⟨8,.data⟩ Zh rfl);rw[Qr (Cw rfl ZN (d.vals 6 (g ⟨6,.guard⟩ Zh rfl)))];go_simp
         go_at_call 23;refine(cx.o wa d.chg).mono ?_;rintro e Z ⟨rfl,B⟩;exact z _ _ Zh (d.put ZM (by simp[gF]) B)
        |10,c=>
         obtain rfl:=Q5 c;have dp:a.tmps.getD 169 undef= .bool true:=d.vals 9 (g ⟨9,.data⟩ Zh rfl);rw[Qr (Cw rfl ZN (d.vals 6 (g ⟨6,.guard⟩ Zh rfl)))];go_simp
         exact z _ _ Zh (d.put ZM (by simp[gF]) cR)
        |11,c=>
         obtain rfl:=Q5 c;have dk:a.tmps.getD 166 undef= .bool false:=d.vals 6 (g ⟨6,.data⟩ Zh rfl);have dr:a.tmps.getD 170 undef= .bool false:=d.vals 10 (g ⟨10,.data⟩ Zh rfl);rw[Qr (by simp[Region.wanted])];go_simp
         exact z _ _ Zh (d.put ZM (by simp[gF]) cR)
        |12,c=>
         obtain rfl:=Q5 c;have ds:a.tmps.getD 171 undef= .bool false:=d.vals 11 (g ⟨11,.data⟩ Zh rfl);rw[Qr (by simp[Region.wanted])];go_simp
         exact z _ _ Zh (d.put ZM (by simp[gF]) cR)
        |13,c=>
         obtain rfl:=Q5 c;have cV:a.tmps.getD 18 undef= .pointer (some ⟨W,0,none⟩):=M.at 18 Yb;rw[Qr (Cw rfl ZN (d.vals 12 (g ⟨12,.guard⟩ Zh rfl)))];go_simp
         exact z _ _ Zh (d.put ZM (by simp[gF]) cR)
        |14,c=>
         obtain rfl:=Q5 c;have du:a.tmps.getD 173 undef= .pointer (some ⟨W,0,none⟩):=d.vals 13 (g ⟨13,.data⟩ Zh rfl);rw[Qr (Cw rfl ZN (d.vals 12 (g ⟨12,.guard⟩ Zh rfl)))];go_simp
         go_at_call 38;refine(cB.o wa d.chg).mono ?_;rintro e Z ⟨s1,rfl,q,B⟩;exact z _ _ Zh (gx d q B)
        |15,c=>
         obtain rfl:=Q5 c;have dq:a.tmps.getD 17 undef= .pointer (some ⟨wr.heap.size,0,none⟩):=M.at 17 Yb;rw[Qr (Cw rfl ZN (d.vals 12 (g ⟨12,.guard⟩ Zh rfl)))];go_simp
         exact z _ _ Zh (d.put ZM (by simp[gF]) cR)
        |16,c=>
         obtain rfl:=Q5 c;have dw:a.tmps.getD 175 undef= .pointer (some ⟨wr.heap.size,3,none⟩):=d.vals 15 (g ⟨15,.data⟩ Zh rfl);rw[Qr (Cw rfl ZN (d.vals 12 (g ⟨12,.guard⟩ Zh rfl)))];have cW:=(cG.o.kept d.chg).cell 3;simp only[Qa,Qb]at cW;go_simp
         exact z _ _ Zh (d.put ZM (by simp[gF]) cR)
        |17,c=>
         obtain rfl:=Q5 c;obtain⟨v1,dv,q1⟩:∃v1,a.tmps.getD 174 undef=v1/\DX wa v1 (MW x):=⟨_,rfl,d.s1 (g ⟨14,.data⟩ Zh rfl)⟩
         have dx:a.tmps.getD 176 undef= .slice X N Y:=d.vals 16 (g ⟨16,.data⟩ Zh rfl);have HE:=Rf _ _ _ wa q1 (cy.o wa d.chg) (by rw[Ju];have:=(Ar ay.o.fits).1;omega) ct.o;clear q1;rw[Qr (Cw rfl ZN (d.vals 12 (g ⟨12,.guard⟩ Zh rfl)))];go_simp
         go_at_call 37;refine HE.mono ?_;rintro e Z ⟨rfl,B⟩;exact z _ _ Zh (d.put ZM (by simp[gF]) B)
        |18,c=>
         obtain rfl:=Q5 c;have dy:a.tmps.getD 177 undef= .bool true:=d.vals 17 (g ⟨17,.data⟩ Zh rfl);rw[Qr (Cw rfl ZN (d.vals 12 (g ⟨12,.guard⟩ Zh rfl)))];go_simp
         exact z _ _ Zh (d.put ZM (by simp[gF]) cR)
        |19,c=>
         obtain rfl:=Q5 c;have dt:a.tmps.getD 172 undef= .bool false:=d.vals 12 (g ⟨12,.data⟩ Zh rfl);have dz:a.tmps.getD 178 undef= .bool false:=d.vals 18 (g ⟨18,.data⟩ Zh rfl);rw[Qr (by simp[Region.wanted])];go_simp
         exact z _ _ Zh (d.put ZM (by simp[gF]) cR)
        |_+20,c=>exact absurd c Zh
       .intro a wR dd M hd d
        have L:a.tmps.getD 179 undef= .bool false:=d.vals 19 (hd 19 ZM);have ak:=UD (Chg w7 wR []) (H.o.trans (aO.o.trans d.chg));clear d hd bl;have ah:=M.form' [160,161,162,163,164,165,166,167,168,169,170,171,172,173,174,175,176,177,178,179] Yb;have bz:=M.defers;obtain⟨A,df⟩:=a;clear M
        dsimp only at ah bz L
        simp only[List.foldl_cons,List.foldl_nil]at ah;rw[L]at ah;obtain⟨u160,bR⟩:=Ue (A.getD 160 undef)
        obtain⟨u161,bS⟩:=Ue (A.getD 161 undef)
        obtain⟨u162,bT⟩:=Ue (A.getD 162 undef)
        obtain⟨u163,bU⟩:=Ue (A.getD 163 undef)
        obtain⟨u164,bV⟩:=Ue (A.getD 164 undef)
        obtain⟨u165,bW⟩:=Ue (A.getD 165 undef)
        obtain⟨u166,bX⟩:=Ue (A.getD 166 undef)
        obtain⟨u167,bY⟩:=Ue (A.getD 167 undef)
        obtain⟨u168,bZ⟩:=Ue (A.getD 168 undef)
        obtain⟨u169,b0⟩:=Ue (A.getD 169 undef)
        obtain⟨u170,b4⟩:=Ue (A.getD 170 undef)
        obtain⟨u171,b5⟩:=Ue (A.getD 171 undef)
        obtain⟨u172,b6⟩:=Ue (A.getD 172 undef)
        obtain⟨u173,b7⟩:=Ue (A.getD 173 undef)
        obtain⟨u174,b8⟩:=Ue (A.getD 174 undef)
        obtain⟨u175,b9⟩:=Ue (A.getD 175 undef)
        obtain⟨u176,ca⟩:=Ue (A.getD 176 undef)
        obtain⟨u177,cb⟩:=Ue (A.getD 177 undef)
        obtain⟨u178,cc⟩:=Ue (A.getD 178 undef)
        rw[<-bR,<-bS,<-bT,<-bU,<-bV,<-bW,<-bX,<-bY,<-bZ,<-b0,<-b4,<-b5,<-b6,<-b7,<-b8,<-b9,<-ca,<-cb,<-cc]at ah;clear bR bS bT bU bV bW bX bY bZ b0 b4 b5 b6 b7 b8 b9 ca cb cc L;simp only[List.setIfInBounds_toArray,List.set_cons_zero,List.set_cons_succ]at ah;subst ah;subst bz;go_wp2_with fail
        go_roundw
        case rel=>exact⟨i+1,Zj,by go_num,ak.o⟩
        case measure=>simp[intOf];omega
       .exact⟨Chg.refl _ _,(fun _ e=>by cases e),(fun e=>by cases e)⟩
       go_roundw
       case rel=>exact⟨i+1,Zj,by go_num,H.o.trans (by exact cg cR)⟩
       case measure=>simp[intOf];omega
     .obtain rfl:i=no:=by omega
      have bE:(O.map fy).length=i:=by rw[List.length_map,R.o]
      have bx:=fI (fun o c=>(HA.o.small o c).steps) cw.o
      have bM:∀o∈O.map fy,T7 o/\o.path.size<=2097152/\o.frm.size<=2097152:=fun o c=>by
       obtain⟨p,hp,rfl⟩:=List.mem_map.1 c;exact gz (H0.o p hp) (HA.o.small p hp).steps (ag.o p hp).1 (ag.o p hp).2
      have aT:=gy (O.map fy) (.slice ra i rc) xr wr (HL.o.kept ((k.o.trans H7.o).trans H.o)) (Q7 ad.o ((k.o.trans H7.o).trans H.o).size) (aA.o.kept ((k.o.trans H7.o).trans H.o)) (Q.o.row.kept H.o) (Cc.kept H.o Q.o.ops.toIn) bM (by rw[bE];exact cY);rw[bx]at aT;have cD:=hZ aT;clear aT bx bM bE;go_wp2_with fail
      refine cD.o.mono ?_;rintro e w8 ⟨cT,tz,rfl,z1,z2,h8,_⟩;have c6:=hZ z1;have c7:=hZ z2;have aK:=UD (Chg w6 w8 []) ((cm.o.trans H.o).trans h8);have H8:=UD (Chg w2 w8 []) (P.o.trans aK.o);clear z1 z2 h8
      go_wp2_with(first
       |(go_at_call 23;refine(OL cT cQ tz td _ w8 c6.o (ar.o.kept aK.o ai.o) c7.o (fun b C=>Q6 (ai.o b C) aK.o.size) bh.o).mono ?_;rintro e w9 ⟨rfl,h9⟩;have H9:=UD (Chg w2 w9 []) (H8.o.trans h9);clear h9)
       |(go_at_call 13;refine(aS.o w9 H9.o).mono ?_;rintro e c4 ⟨rfl,br⟩;have cl:=UD (Chg w2 c4 []) (H9.o.trans br);clear br))
      go_ret
      exact⟨rfl,k.o.trans cl.o⟩
end
end Go.Proofs.YtkfnkppdhcaeoaaGreatDoor

/- Part 8 of the proof of patchJoined_card. -/
import Derived.Test.YtkfnkppdhcaeoaaGreatDoorM07
set_option maxRecDepth 100000
set_option maxHeartbeats 32000000
set_option linter.unusedSimpArgs false
set_option linter.unusedVariables false
set_option linter.unnecessarySimpa false
namespace Go.Proofs.YtkfnkppdhcaeoaaGreatDoor
open Go renaming Calls->Cl,TypeId->Ti,Value->Vl,World->Wl
section
open _root_.Go.Proofs.Tryz
open Go Go.RowKit Tree
theorem C3.grown{w w':Wl}{F c:Nat->Prop}{T:Ti}{b:Nat}{sv:Vl}{l:List Tr}{vs:List Vl}(h:C3 w F T b sv l vs)(d:Chg w w' [])(i:∀k,F k->c k)(f:∀k,c k->F k\/w.heap.size<=k)(n:∀k,c k->k<w'.heap.size):
  C3 w' c T b sv l vs:=by
 refine⟨h.blk.kept d,h.lst.kept d,Ak.kept (d.keepsF h.lt) i l vs h.items,fun j=> ?_,fun g e=>⟨fun m=> ?_,(h.apart' g e).2⟩,n⟩
 .rcases f b j with a|a
  .exact h.apart a
  .have:=h.blk.lt;omega
 .rcases f g m with a|a
  .exact(h.apart' g e).1 a
  .have:=h.lst.lt e;omega
theorem FZ.after{F:Nat->Prop}{T:Ti}{b:Nat}{sv:Vl}{l:List Tr}{w f w2:Wl}(e:Chg w f [])(h:FZ F T b sv l f w2):FZ F T b sv l w w2:=by
 obtain⟨j,k,a,c,d⟩:=h;refine⟨j,k,a,(e.none _).trans c,fun g i=> ?_⟩;have:=e.size
 rcases d g i with d|d
 .exact .inl d
 .exact .inr (by omega)
theorem Ak.mk{w:Wl}{F:Nat->Prop}:∀(ts:List Tr) (vs:List Vl),ts.length=vs.length->(∀(i:Nat) (t:Tr) (v:Vl),ts[i]? =some t->vs[i]? =some v->Af w F t v)->Ak w F ts vs
 |[],[],_,_=>by simp[Ak]
 |[],_::_,h,_=>by simp at h
 |_::_,[],h,_=>by simp at h
 |t::ts,v::vs,h,hi=>by
  simp only[Ak];exact⟨v,vs,rfl,hi 0 t v rfl rfl,Ak.mk ts vs (by simpa using h) fun i c d a b=>hi (i+1) c d (by simpa using a) (by simpa using b)⟩
def Kv(ks:List BY)(vs:List Vl):List Vl:=(AY ks).map fun s=>vs.getD (A5 ks s) .nilIface
theorem Mw{ks:List BY}{vs:List Vl}(b:ks.length=vs.length){i:Nat}{s:BY}(h:(AY ks)[i]? =some s):∃v,vs[A5 ks s]? =some v/\(Kv ks vs)[i]? =some v:=by
 have a:s∈ks:=D9.1 (Qi h);have c:=Dk a;refine⟨vs[A5 ks s]'(by omega),Q9 (by omega), ?_⟩;unfold Kv;rw[List.getElem?_map,h,Option.map_some,List.getD_eq_getElem?_getD,Q9 (by omega)];rfl
theorem EP(ks:List BY)(vs:List Vl):(Kv ks vs).length=ks.length:=by unfold Kv;rw[List.length_map,A3]
theorem Mx{w:Wl}{F:Nat->Prop}{ks:List BY}{l:List Tr}{vs:List Vl}(d:ks.length=l.length)(h:Ak w F l vs):Ak w F (LA ks l) (Kv ks vs):=by
 refine Ak.mk _ _ (by rw[DD,EP]) fun i t v c k=> ?_
 have hi:i<(AY ks).length:=by
  have:=(Qc.1 c).1;rwa[DD,<-A3]at this
 have e:=Q9 hi;obtain⟨m,f,a⟩:=Rp d e;obtain⟨n,g,b⟩:=Mw (by rw[d,h.length]) e
 rw[c]at a;injection a with a;subst a
 rw[k]at b;injection b with b;subst b
 obtain⟨o,c1,j⟩:=h.get _ _ f
 rw[g]at c1;injection c1 with c1;subst c1
 exact j
def Yg(F:Nat->Prop)(T:Ti)(b:Nat)(sv:Vl)(l:List Tr)(w:Wl)(e:Ending)(w':Wl):Prop:=
 e= .returned (.tuple #[])/\∃a:Nat->Prop,(∀k,F k->a k)/\(∀k,a k->k<w.heap.size->F k)/\FZ a T b sv l w w'
theorem GA{w:Wl}{b:Nat}{a c d e f:Vl}{T:Ti}(h:Ac w b [a,c,d,e,f] T):b<w.heap.size/\(∀j,w.frozen? ⟨b,j,none⟩=false)/\w.cell? ⟨b,0,none⟩=some a/\
  w.cell? ⟨b,1,none⟩=some c/\w.cell? ⟨b,2,none⟩=some d/\w.cell? ⟨b,3,none⟩=some e/\w.cell? ⟨b,4,none⟩=some f:=
 ⟨h.lt,fun j=>h.frozen j,h.cell 0,h.cell 1,h.cell 2,h.cell 3,h.cell 4⟩
theorem AK.rowAt{w:Wl}{sv:Vl}{e:Ti}{vs:List Vl}{F:Nat->Prop}(h:AK w sv e vs)(d:∀g,sv.ownBlock=some g->F g):Ax w F sv vs:=by
 obtain⟨a,b,rfl,f⟩:=h.form;by_cases c:vs=[]
 .subst c;exact .inl ⟨rfl,a,b,rfl⟩
 .obtain⟨g,rfl⟩:=f c
  exact .inr ⟨g,0,b,rfl,d g rfl,fun i v j=>by rw[Nat.zero_add];exact h.cell rfl i v j⟩
theorem Ms(F:Nat->Prop)(T:Ti)(b:Nat)(sv:Vl)(l:List Tr)(vs:List Vl)(w:Wl)(hM:C3 w F T b sv l vs)(G:Nat->Prop)(sk:Vl)(ks:List BY)(hK:Ax w G sk (Ad ks))(hG:∀k,G k->k<w.heap.size)(hr:∀s∈ks,Utf.Al s=true)(m:∀s∈ks,s.size<=2147483648)(f:ks.length<=65536)(a2:ks.Nodup)(b2:(ks.map ByteArray.size).sum<=1099511627776)(hF:EJ l)(hn:ks.length<=l.length)(hl:l.length<=2147483648)(hw:(Ag (D1 ks (l.drop (l.length-ks.length)))).within=true):
  Cl prog 115 #[.pointer (some ⟨b,0,none⟩),sk] w (Yg F T b sv (l.take (l.length-ks.length)++[D1 ks (l.drop (l.length-ks.length))]) w):=by
 obtain⟨a,c,rfl,aW⟩:=hK.cell;have al:(Ad ks).length=ks.length:=by simp[Ad]
 have HK:=hZ hK;have HC:=hZ aW;have HR:=hZ hr;have HS:=hZ m;have HM:=hZ hM;have aO:=hZ a2;have b8:=@run_makeMap prog;have bv:=hZ hw;clear hw;clear hM hK hr m a2 aW;rw[al];go_enter func115,ntmps115
 go_wp2_with fail
 go_loopw [18] (fun i wr=>∃k:Nat,k<=ks.length/\i= .int .i64 k/\Chg w wr [])
  (fun i _=>ks.length-(intOf i).toNat)
 case atStart=>exact⟨0,by omega,rfl,Chg.refl _ _⟩
 case round=>
  obtain⟨k,b4,rfl,d⟩:=hrel;by_cases aC:k<ks.length
  .have X:(Ad ks)[k]? =some (.string ks[k]):=by simp[Ad,aC]
   obtain⟨b',o,ax,bz,S⟩:=HC.o k _ X;subst ax;have aA:=d.keeps S;have aG:=HR.o ks[k] (List.getElem_mem aC);have am:=HS.o ks[k] (List.getElem_mem aC);obtain⟨s,m⟩:∃s,s=ks[k]:=⟨_,rfl⟩
   rw[<-m]at aA aG am;have br:=hZ aG;clear X S aG m
   go_wp2_with(first
    |(go_at_call 101;refine(Dq s _ am).mono ?_;rintro e w2 ⟨rfl,bC⟩;rw[br.o])
    |(go_at_call 106;refine(Au _ _).mono ?_;rintro e w3 ⟨rfl,rfl⟩))
   go_roundw
   case rel=>exact⟨k+1,by omega,by go_num,d.trans bC⟩
   case measure=>simp[intOf];omega
  .have W:k=ks.length:=by omega
   subst W;obtain⟨wa,bT⟩:∃x,x=wr:=⟨_,rfl⟩
   subst bT;go_wp2_with fail
   generalize bd:wa.alloc (.map #[] 0)=w2
   go_loopw [29,7] (fun i y wq=>∃k:Nat,k<=ks.length/\i= .int .i64 k/\y= .int .i64 ((ks.take k).map ByteArray.size).sum/\Chg w wq []/\E2 wq wa.heap.size ks k)
    (fun i _ _=>ks.length-(intOf i).toNat)
   case atStart=>exact⟨0,by omega,rfl,by simp,by rw[<-bd];exact d.alloc _,by rw[<-bd];exact E2.made _ _⟩
   case round=>
    obtain⟨k,b5,rfl,rfl,J,y⟩:=hrel;by_cases aD:k<ks.length
    .have X:(Ad ks)[k]? =some (.string ks[k]):=by simp[Ad,aD]
     obtain⟨b',o,ax,bz,S⟩:=HC.o k _ X;subst ax;have aA:=J.keeps S;have am:=HS.o ks[k] (List.getElem_mem aD);have V:ks[k]? =some ks[k]:=Q9 aD
     have A:ks[k]∉ks.take k:=by
      intro z;obtain⟨j,hj⟩:=List.mem_iff_getElem?.1 z;rw[List.getElem?_take]at hj;split at hj
      .have:=(List.getElem?_inj (show j<ks.length by omega) aO.o).1 (hj.trans V.symm)
       omega
      .cases hj
     obtain⟨s,m⟩:∃s,s=ks[k]:=⟨_,rfl⟩
     rw[<-m]at aA am V A;obtain⟨cc,bI⟩:=y.look_ok (s:=s) (by unfold maxLen;omega) false (by simp[A]);have ad:=hZ y;have bj:=hZ V;have bq:=hZ A
     have bt:Hid (((ks.take (k+1)).map ByteArray.size).sum=((ks.take k).map ByteArray.size).sum+s.size):=by
      unfold Hid;rw[List.take_add_one,V];simp
     have HB:((ks.take k).map ByteArray.size).sum<=1099511627776:=by
      have e:(ks.map ByteArray.size).sum=((ks.take k).map ByteArray.size).sum+((ks.drop k).map ByteArray.size).sum:=by
       rw[<-List.sum_append,<-List.map_append,List.take_append_drop]
      omega
     clear X S m y V A;obtain⟨M,ah⟩:∃M,M=((ks.take k).map ByteArray.size).sum:=⟨_,rfl⟩
     rw[<-ah]at HB;have bp:=hZ ah;rw[<-ah];clear ah
     go_wp2_with(first
      |(at_mapUpdate;refine CV _ rfl _ _ _ rfl wa.heap.size k ks rfl ad.o s rfl rfl bj.o bq.o (by unfold maxLen;omega) (by omega) ?_;intro w5 bG bD)
      |(go_at_call 106;refine(Au _ _).mono ?_;rintro e w3 ⟨rfl,rfl⟩))
     go_roundw
     case rel=>exact⟨k+1,by omega,by go_num,by rw[bt.o,<-bp.o];go_num,J.fresh bD (by have:=d.size;simp;omega),bG⟩
     case measure=>simp[intOf];omega
    .have W:k=ks.length:=by omega
     subst W;obtain⟨wb,bU⟩:∃x,x=wr:=⟨_,rfl⟩
     subst bU;have bS:=HM.o.items.length;have E:=hZ (HM.o.kept J);rw[List.take_length];have ad:=hZ y;clear y;have bi:=hZ hF;obtain⟨S,hS⟩:∃S,(Bk (l.drop (vs.length-ks.length))).over (ks.map ByteArray.size).sum=S:=⟨_,rfl⟩
     have aQ:=hZ hS;clear hS;obtain⟨s1,s2,s3⟩:=S
     go_wp2_with(first
      |(go_at_call 112;go_loud(refine(GS F T b sv l vs _ E.o ks.length hn hl).mono ?_;rintro e w5 ⟨v5,rfl,Y,bR,P⟩))
      |(go_at_call 114;go_loud(
        refine(Ie (fun k=>F k\/v5.ownBlock=some k) v5 (l.drop (vs.length-ks.length)) (vs.drop (vs.length-ks.length)) _ w5 (Y.rowAt fun g d=> .inr d)
         ((E.o.items.kept (P.keepsF E.o.lt) (fun _ h=> .inl h)).drop _) (by
          rintro k (f|f)
          .exact Q6 (E.o.lt k f) P.size
          .exact Y.lt f) (bi.o.drop _) (by simp;omega) (by omega)).mono ?_
        rintro e w6 ⟨rfl,aj⟩;rw[aQ.o];unfold SC))
      |(go_at_call 42;go_loud(
        have aM:=hZ (HK.o.kept ((J.trans (P.trans aj)).keepsF hG) (fun _ h=>h));rw[al]at aM;refine(DL G _ _ w6 aM.o (by intro u hu;simp[Ad]at hu;obtain⟨_,_,rfl⟩:=hu;rfl) (by rw[al];omega)).mono ?_
        rintro e D ⟨v7,rfl,Z,an,aH⟩;obtain⟨n,q,rfl,bB⟩:=Z.form;rw[al]at Z an|-))
      |(go_at_call 156;go_loud(
        refine(J9 ks n q _ HR.o HS.o (by omega) (Z.kept ((Chg.refl D []).alloc _))).mono ?_;rintro e Q ⟨rfl,aU,ak⟩
        have A:D.heap.size∉(Vl.slice n ks.length q).ownBlock.toList:=by
         intro z;have:=Z.lt (g:=D.heap.size) (by simpa using z);omega
        have ap:=hZ ((Ac.new D [.int .i64 s1,.int .i64 s2,.int .i64 s3,.slice n ks.length q,.slice none 0 0] 231).kept ak A)
        obtain⟨b0,b1,bV,bW,bX,bY,bZ⟩:=GA ap.o)))
     have bK:=P.size;have bL:=aj.size;have bM:=aH.size;have a7:=ak.size;have b9:=J.size;have b3:=ad.o.lt;simp only[World.size_alloc]at a7;have a4:∀i,i∈(Vl.slice n ks.length q).ownBlock.toList->w6.heap.size<=i:=fun i hi=>an i (by simpa using hi)
     have aJ:=hZ (((aj.trans aH).alloc (.cells #[.int .i64 s1,.int .i64 s2,.int .i64 s3,.slice n ks.length q,.slice none 0 0] 231)).fresh ak (fun i hi=>by have:=a4 i hi;omega));have ab:=hZ (P.trans aJ.o);have ae:=hZ (Y.kept aJ.o);have ar:∀g,v5.ownBlock=some g->g≠D.heap.size:=fun g d=>by have:=Y.lt d;omega
     have bl:=hZ (ad.o.kept ab.o);have bo:=hZ (E.o.kept ab.o);have af:=hZ aU;have aq:=hZ A;have aK:=hZ J;have N:=hZ bS;have bJ:D.heap.size<Q.heap.size:=by omega
     have bf:Hid (∀g,(Vl.slice n ks.length q).ownBlock=some g->wb.heap.size<=g):=fun g d=>by have:=an g d;omega
     have ay:wb.heap.size<=D.heap.size:=by omega
     clear bK bL bM Y bR P aj Z an aH ak aU A J a4 b0 b1 bV bW bX bY bZ bB;obtain⟨o,ho⟩:∃o,o=D.heap.size:=⟨_,rfl⟩
     rw[<-ho]at bJ ap ay aq ar|-;have be:=hZ ar;clear ho a7 ar
     go_loopw [72] (fun i wr=>∃k:Nat,∃C,k<=ks.length/\i= .int .i64 k/\Chg Q wr [o]/\Ac wr o [.int .i64 s1,.int .i64 s2,.int .i64 s3,.slice n ks.length q,C] 231/\
       AK wr C 62 ((Kv ks (vs.drop (vs.length-ks.length))).take k)/\∀g,C.ownBlock=some g->Q.heap.size<=g)
      (fun i _=>ks.length-(intOf i).toNat)
     case atStart=>exact⟨0,_,by omega,rfl,Chg.refl _ _,ap.o,AK.nil _ _,fun g d=>by cases d⟩
     case round=>
      obtain⟨k,C,b6,rfl,aZ,au,aT,aV⟩:=hrel;obtain⟨lo,fo,p0,p1,p2,p3,p4⟩:=GA au;have v:=hZ aZ;have bg:=hZ au;have aN:=hZ aT;have ag:=hZ aV;clear aZ au aT aV;by_cases aE:k<ks.length
      .have a9:k<(AY ks).length:=by rw[A3];exact aE
       have m:(AY ks)[k]? =some (AY ks)[k]:=Q9 a9;obtain⟨s,a8⟩:∃s,s=(AY ks)[k]:=⟨_,rfl⟩
       rw[<-a8]at m;clear a8 a9;have z:s∈ks:=D9.1 (Qi m);have aF:=Gk z;have a6:=Dk z;obtain⟨u,O,bP⟩:=Mw (vs:=vs.drop (vs.length-ks.length)) (by rw[Qm];have:=N.o;omega) m;obtain⟨B,y⟩:∃B,B=A5 ks s:=⟨_,rfl⟩
       rw[<-y]at aF a6 O;clear y
       have bQ:∃t,Af Q F t u:=by
        have bE:=bo.o.items.drop (vs.length-ks.length);have bF:B<(l.drop (vs.length-ks.length)).length:=by rw[Qm];have:=N.o;omega
        obtain⟨v',c1,c2⟩:=bE.get B _ (Q9 bF)
        rw[O]at c1;injection c1 with c1;subst c1
        exact⟨_,c2⟩
       obtain⟨tu,bb⟩:=bQ;obtain⟨ti,xi,rfl⟩:=bb.iface
       have a1:∃H,n=some ⟨H,0,none⟩/\wr.cell? ⟨H,k,none⟩=some (.string s):=by
        obtain⟨a',c',R,aw⟩:=af.o.form
        injection R with e1 _ e3
        subst e1;obtain⟨H,rfl⟩:=aw (by intro h0;have L:=congrArg List.length h0;unfold Ad at L;rw[List.length_map,A3]at L;rw[L]at aE;simp at aE);have az:Q.cell? ⟨H,k,none⟩=some (.string s):=af.o.cell rfl k _ (by simp[Ad,m]);refine⟨H,rfl,(v.o.cell (p:=⟨H,k,none⟩) (af.o.lt rfl) ?_).trans az⟩;have:=aq.o;simp[Vl.ownBlock]at this|-;exact fun e=>this e.symm
       obtain⟨H,rfl,a1⟩:=a1
       have bc:∃r c5,v5= .slice (some ⟨r,0,none⟩) ks.length c5/\wr.cell? ⟨r,B,none⟩=some (.iface ti xi):=by
        obtain⟨a',c',R,aw⟩:=ae.o.form;obtain⟨r,rfl⟩:=aw (by intro h0;rw[h0]at O;simp at O);have bH:(vs.drop (vs.length-ks.length)).length=ks.length:=by rw[Qm];have:=N.o;omega
        rw[bH]at R;refine⟨r,c',R, ?_⟩;have h5:v5.ownBlock=some r:=by rw[R];rfl
        have az:Q.cell? ⟨r,B,none⟩=some (.iface ti xi):=ae.o.cell h5 B _ O;refine(v.o.cell (p:=⟨r,B,none⟩) (ae.o.lt h5) ?_).trans az;have:=be.o r h5;simp;exact this
       obtain⟨r,c5,rfl,bc⟩:=bc;have bm:=hZ ((bl.o.kept v.o (by simp;omega)).kept ((Chg.refl wr []).drew));have bN:=HS.o s z;have bI:=bm.o.look (s:=s) (by unfold maxLen;omega) a6 aF
       have ao:Hid (((Kv ks (vs.drop (vs.length-ks.length))).take k).length=k):=by
        unfold Hid;rw[Ql,EP];omega
       have a3:o∉C.ownBlock.toList:=by
        intro hh;have:=ag.o o (by simpa using hh);omega
       have aP:=hZ a3;clear a3 aF O bb z m bN;go_wp2
       go_region_law(first|(refine Df rfl _ _ _ rfl 62 .nilIface 16 underlying127 Ge rfl C ((Kv ks (vs.drop (vs.length-ks.length))).take k) (by rfl) (by exact aN.o.kept (bs:=[]) (by exact cg cR) (by simp)) wr.heap.size (.iface ti xi) (by rfl) (by exact Bx (by simp) _ _) rfl (by rw[ao.o];omega) (by rw[ao.o];omega) ?_;rw[ao.o];intro g bx w9 bA aR aS;have aa:=hZ ((bg.o.alloc (.cells #[.iface ti xi] 62)).drew.kept aR aP.o);have c9:w9.cell? ⟨o,4,none⟩=some C:=aa.o.cell 4;have f9:∀j,w9.frozen? ⟨o,j,none⟩=false:=(fun j=>aa.o.frozen j);have ca:=aa.o.lt))
       all_goals
        go_wp2
        go_roundw
        case rel=>
         have G3:=v.o;have bO:=v.o.size;refine⟨k+1,.slice (some ⟨g,0,none⟩) (k+1) bx,by omega,by go_num,(Chg.own (sv:= .slice none 0 0) (by exact cg G3) aR (fun g d=>by cases d) (fun g d=> .inr (ag.o g d))).setCell _ _ (by simp),aa.o.set 4 _, ?_, ?_⟩
         .rw[List.take_add_one,bP]
          exact bA.kept (bs:=[o]) ((Chg.refl _ _).setCell _ _ (by simp)) (by
           intro g' U;simp[Vl.ownBlock]at U;subst U
           rcases aS with h|h
           .intro I;simp at I;subst I;exact aP.o (by simp[h])
           .simp at h;intro I;simp at I;omega)
         .intro g' U
          simp[Vl.ownBlock]at U;subst U
          rcases aS with h|h
          .exact ag.o _ h
          .simp at h;omega
        case measure=>simp[intOf];omega
      .have W:k=ks.length:=by omega
       subst W;have aB:(l.drop (vs.length-ks.length)).length=ks.length:=by rw[Qm];have:=N.o;omega
       have aY:(vs.drop (vs.length-ks.length)).length=ks.length:=by rw[Qm];have:=N.o;omega
       have aI:l.drop (l.length-ks.length)=l.drop (vs.length-ks.length):=by rw[N.o]
       have ba:Ag (D1 ks (l.drop (vs.length-ks.length)))=⟨s1,s2,s3⟩:=(Kd aO.o aB.symm).trans aQ.o;have bO:=v.o.size;have ai:Chg wb wr []:=ab.o.fresh v.o (by simp;exact ay);have aX:Chg w wr []:=aK.o.trans ai;obtain⟨K,M⟩:∃K:Nat->Prop,K=fun k=>F k\/(wb.heap.size<=k/\k<wr.heap.size):=⟨_,rfl⟩
       have av:C3 wr K T b sv l vs:=by
        subst M;refine E.o.grown ai (fun k f=> .inl f) (fun k f=>f.imp_right And.left) (fun k f=> ?_)
        rcases f with f|f
        .have:=E.o.lt k f;have:=ai.size;omega
        .exact f.2
       have a0:Af wr K (D1 ks (l.drop (vs.length-ks.length))) (.iface 137 (.pointer (some ⟨o,0,none⟩))):=by
        have h7:AK wr (.slice n ks.length q) 9 (Ad (AY ks)):=af.o.kept v.o (by
         intro g d I;simp at I;subst I
         exact aq.o (by simp[d]))
        unfold D1;simp only[Af];have e:=ba;unfold D1 at e;rw[e];refine⟨o,.slice n ks.length q,C,Kv ks (vs.drop (vs.length-ks.length)),rfl,by subst M;exact .inr ⟨ay,lo⟩,by rw[A3,DD],p0,p1,p2,p3,h7.rowAt ?_,p4, ?_, ?_⟩
        .intro g d
         subst M;have L:=bf.o g d;have h2:=h7.lt d;exact .inr ⟨L,h2⟩
        .have:=aN.o
         rw[Qn (by rw[EP];omega)]at this;refine this.rowAt fun g d=> ?_
         subst M;have L:=ag.o g d;have h2:=this.lt d;have h3:=ab.o.size;exact .inr ⟨by omega,h2⟩
        .exact Mx (by rw[aB]) (av.items.drop _)
       have bn:=hZ av;have bk:=hZ a0;have bh:=hZ aX
       have bw:Hid ((Ag (D1 ks (l.drop (vs.length-ks.length)))).within=true):=by
        have:=bv.o;rwa[aI]at this
       have aL:=hZ M;have bu:=hZ aI;obtain⟨a5,c5,e5,_⟩:=ae.o.form;rw[aY]at e5;subst e5;clear aB aY aI ba ai av a0 aX M
       go_wp2_with(first
        |(go_at_call 113;go_loud(refine(I0 K T _ _ b sv l vs ks.length _ bn.o bk.o bw.o hn hl).mono ?_;rintro e w9 ⟨rfl,hP⟩)))
       go_end0
       rw[bu.o];refine⟨rfl,K,fun k f=>by rw[aL.o];exact .inl f,fun k f b7=> ?_,hP.after bh.o⟩;rw[aL.o]at f
       rcases f with f|f
       .exact f
       .have:=aK.o.size;omega
def PT(w:Wl)(e:Ending)(w':Wl):Prop:=(∃n:Int,e= .panicked [{v:= .iface 50 (.int .i64 n),recovered:=false}])/\Chg w w' []
theorem JR(F:Nat->Prop)(T:Ti)(b:Nat)(sv:Vl)(l:List Tr)(vs:List Vl)(w:Wl)(u:C3 w F T b sv l vs)(G:Nat->Prop)(sk:Vl)(ks:List BY)(m:Ax w G sk (Ad ks))(S:∀k,G k->k<w.heap.size)(A:¬∀s∈ks,Utf.Al s=true)(d:∀s∈ks,s.size<=2147483648)(V:ks.length<=2147483648):
  Cl prog 115 #[.pointer (some ⟨b,0,none⟩),sk] w (PT w):=by
 obtain⟨a,c,rfl,v⟩:=m.cell;have N:(Ad ks).length=ks.length:=by simp[Ad]
 have P:=hZ m;have D:=hZ v;have J:=hZ d;have Q:=hZ u;have I:=hZ A;clear A;clear u m d v;rw[N];go_enter func115,ntmps115
 go_wp2_with fail
 go_loopw [18] (fun i wr=>∃k:Nat,k<=ks.length/\i= .int .i64 k/\Chg w wr []/\∀s∈ks.take k,Utf.Al s=true)
  (fun i _=>ks.length-(intOf i).toNat)
 case atStart=>exact⟨0,by omega,rfl,Chg.refl _ _,fun s h=>by simp at h⟩
 case round=>
  obtain⟨k,W,rfl,n,g⟩:=hrel;by_cases r:k<ks.length
  .have z:(Ad ks)[k]? =some (.string ks[k]):=by simp[Ad,r]
   obtain⟨R,o,K,U,y⟩:=D.o k _ z;subst K;have L:=n.keeps y;have t:=J.o ks[k] (List.getElem_mem r);have q:ks[k]? =some ks[k]:=Q9 r;obtain⟨s,d⟩:∃s,s=ks[k]:=⟨_,rfl⟩
   rw[<-d]at L t q;have H:=hZ g;have E:=hZ q;clear z y d g q;by_cases j:Utf.Al s=true
   .have f:=hZ j
    clear j
    go_wp2_with(first
     |(go_at_call 101;refine(Dq s _ t).mono ?_;rintro e w2 ⟨rfl,p⟩;rw[f.o])
     |(go_at_call 106;refine(Au _ _).mono ?_;rintro e O ⟨rfl,rfl⟩))
    go_roundw
    case rel=>exact⟨k+1,by omega,by go_num,n.trans p,fun x C=>by
     rw[List.take_add_one,E.o]at C
     rcases Qf.1 C with h|h
     .exact H.o x h
     .simp at h;subst h;exact f.o⟩
    case measure=>simp[intOf];omega
   .have B:Utf.Al s=false:=by simpa using j
    have f:=hZ B;clear j B
    go_wp2_with(first
     |(go_at_call 101;refine(Dq s _ t).mono ?_;rintro e w2 ⟨rfl,p⟩;rw[f.o])
     |(go_at_call 106;refine(CD _ _).mono ?_;rintro e O ⟨rfl,rfl⟩))
    exact⟨rfl,⟨100,rfl⟩,n.trans p⟩
  .exfalso
   have M:k=ks.length:=by omega
   subst M;rw[List.take_length]at g;exact I.o g
theorem JQ(F:Nat->Prop)(T:Ti)(b:Nat)(sv:Vl)(l:List Tr)(vs:List Vl)(w:Wl)(K:C3 w F T b sv l vs)(G:Nat->Prop)(sk:Vl)(ks:List BY)(t:Ax w G sk (Ad ks))(hG:∀k,G k->k<w.heap.size)(P:∀s∈ks,Utf.Al s=true)(d:∀s∈ks,s.size<=2147483648)(hk:ks.length<=2147483648)(O:¬ks.Nodup)(ak:(ks.map ByteArray.size).sum<=1099511627776):
  Cl prog 115 #[.pointer (some ⟨b,0,none⟩),sk] w (PT w):=by
 obtain⟨a,c,rfl,N⟩:=t.cell;have ah:(Ad ks).length=ks.length:=by simp[Ad]
 have HK:=hZ t;have E:=hZ N;have J:=hZ d;have Z:=hZ P;have HM:=hZ K;have an:=@run_makeMap prog;have X:=hZ O;clear P O;clear K t d N;rw[ah];go_enter func115,ntmps115
 go_wp2_with fail
 go_loopw [18] (fun i wr=>∃k:Nat,k<=ks.length/\i= .int .i64 k/\Chg w wr [])
  (fun i _=>ks.length-(intOf i).toNat)
 case atStart=>exact⟨0,by omega,rfl,Chg.refl _ _⟩
 case round=>
  obtain⟨k,al,rfl,n⟩:=hrel;by_cases A:k<ks.length
  .have h:(Ad ks)[k]? =some (.string ks[k]):=by simp[Ad,A]
   obtain⟨b',o,u,ad,f⟩:=E.o k _ h;subst u;have v:=n.keeps f;have C:=Z.o ks[k] (List.getElem_mem A);have r:=J.o ks[k] (List.getElem_mem A);obtain⟨s,d⟩:∃s,s=ks[k]:=⟨_,rfl⟩
   rw[<-d]at v C r;have aa:=hZ C;clear h f C d
   go_wp2_with(first
    |(go_at_call 101;refine(Dq s _ r).mono ?_;rintro e w2 ⟨rfl,ae⟩;rw[aa.o])
    |(go_at_call 106;refine(Au _ _).mono ?_;rintro e R ⟨rfl,rfl⟩))
   go_roundw
   case rel=>exact⟨k+1,by omega,by go_num,n.trans ae⟩
   case measure=>simp[intOf];omega
  .have z:k=ks.length:=by omega
   subst z;obtain⟨D,aj⟩:∃x,x=wr:=⟨_,rfl⟩
   subst aj;go_wp2_with fail
   generalize Q:D.alloc (.map #[] 0)=w2
   go_loopw [29,7] (fun i y S=>∃k:Nat,k<=ks.length/\i= .int .i64 k/\y= .int .i64 ((ks.take k).map ByteArray.size).sum/\Chg w S []/\E2 S D.heap.size ks k/\(ks.take k).Nodup)
    (fun i _ _=>ks.length-(intOf i).toNat)
   case atStart=>exact⟨0,by omega,rfl,by simp,by rw[<-Q];exact n.alloc _,by rw[<-Q];exact E2.made _ _,List.nodup_nil⟩
   case round=>
    obtain⟨k,am,rfl,rfl,y,g,q⟩:=hrel;by_cases B:k<ks.length
    .have h:(Ad ks)[k]? =some (.string ks[k]):=by simp[Ad,B]
     obtain⟨b',o,u,ad,f⟩:=E.o k _ h;subst u;have v:=y.keeps f;have r:=J.o ks[k] (List.getElem_mem B);have p:ks[k]? =some ks[k]:=Q9 B;obtain⟨s,d⟩:∃s,s=ks[k]:=⟨_,rfl⟩
     rw[<-d]at v r p;have Y:=hZ q;have V:=hZ g;have H:=hZ p
     have ab:Hid (((ks.take (k+1)).map ByteArray.size).sum=((ks.take k).map ByteArray.size).sum+s.size):=by
      unfold Hid;rw[List.take_add_one,p];simp
     have U:((ks.take k).map ByteArray.size).sum<=1099511627776:=by
      have e:(ks.map ByteArray.size).sum=((ks.take k).map ByteArray.size).sum+((ks.drop k).map ByteArray.size).sum:=by
       rw[<-List.sum_append,<-List.map_append,List.take_append_drop]
      omega
     obtain⟨M,m⟩:∃M,M=((ks.take k).map ByteArray.size).sum:=⟨_,rfl⟩
     rw[<-m]at U;have W:=hZ m;rw[<-m];clear m q p h f d;by_cases j:s∈ks.take k
     .obtain⟨cc,ai⟩:=g.look_ok (s:=s) (by unfold maxLen;omega) true (by simp[j])
      clear g j
      go_wp2_with(first
       |(go_at_call 106;refine(CD _ _).mono ?_;rintro e R ⟨rfl,rfl⟩))
      exact⟨rfl,⟨101,rfl⟩,y⟩
     .obtain⟨cc,ai⟩:=g.look_ok (s:=s) (by unfold maxLen;omega) false (by simp[j])
      have I:=hZ j;clear g j
      go_wp2_with(first
       |(at_mapUpdate;refine CV _ rfl _ _ _ rfl D.heap.size k ks rfl V.o s rfl rfl H.o I.o (by unfold maxLen;omega) (by omega) ?_;intro w5 ag af)
       |(go_at_call 106;refine(Au _ _).mono ?_;rintro e R ⟨rfl,rfl⟩))
      go_roundw
      case rel=>exact⟨k+1,by omega,by go_num,by rw[ab.o,<-W.o];go_num,y.fresh af (by have:=n.size;simp;omega),ag,by
       rw[List.take_add_one,H.o];simp only[Option.toList_some]
       exact List.nodup_append.2 ⟨Y.o,by simp,fun a ha b L e=>by simp at L;subst L;subst e;exact I.o ha⟩⟩
      case measure=>simp[intOf];omega
    .exfalso
     have z:k=ks.length:=by omega
     subst z;rw[List.take_length]at q;exact X.o q
theorem Ly(F:Nat->Prop)(T:Ti)(b:Nat)(sv:Vl)(l:List Tr)(vs:List Vl)(w:Wl)(K:C3 w F T b sv l vs)(G:Nat->Prop)(sk:Vl)(ks:List BY)(v:Ax w G sk (Ad ks))(hG:∀k,G k->k<w.heap.size)(O:∀s∈ks,Utf.Al s=true)(d:∀s∈ks,s.size<=2147483648)(hk:ks.length<=2147483648)(N:ks.Nodup)(af:(ks.map ByteArray.size).sum<=1099511627776)(hn:l.length<ks.length):
  Cl prog 115 #[.pointer (some ⟨b,0,none⟩),sk] w (PT w):=by
 obtain⟨a,c,rfl,L⟩:=v.cell;have ai:(Ad ks).length=ks.length:=by simp[Ad]
 have HK:=hZ v;have I:=hZ L;have J:=hZ d;have HR:=hZ O;have W:=hZ K;have ao:=@run_makeMap prog;have Z:=hZ N;clear O N;clear K v d L;rw[ai];go_enter func115,ntmps115
 go_wp2_with fail
 go_loopw [18] (fun i wr=>∃k:Nat,k<=ks.length/\i= .int .i64 k/\Chg w wr [])
  (fun i _=>ks.length-(intOf i).toNat)
 case atStart=>exact⟨0,by omega,rfl,Chg.refl _ _⟩
 case round=>
  obtain⟨k,al,rfl,p⟩:=hrel;by_cases C:k<ks.length
  .have m:(Ad ks)[k]? =some (.string ks[k]):=by simp[Ad,C]
   obtain⟨b',o,y,ae,f⟩:=I.o k _ m;subst y;have z:=p.keeps f;have E:=HR.o ks[k] (List.getElem_mem C);have u:=J.o ks[k] (List.getElem_mem C);obtain⟨s,d⟩:∃s,s=ks[k]:=⟨_,rfl⟩
   rw[<-d]at z E u;have ab:=hZ E;clear m f E d
   go_wp2_with(first
    |(go_at_call 101;refine(Dq s _ u).mono ?_;rintro e w2 ⟨rfl,ag⟩;rw[ab.o])
    |(go_at_call 106;refine(Au _ _).mono ?_;rintro e w3 ⟨rfl,rfl⟩))
   go_roundw
   case rel=>exact⟨k+1,by omega,by go_num,p.trans ag⟩
   case measure=>simp[intOf];omega
  .have B:k=ks.length:=by omega
   subst B;obtain⟨H,aj⟩:∃x,x=wr:=⟨_,rfl⟩
   subst aj;go_wp2_with fail
   generalize P:H.alloc (.map #[] 0)=w2
   go_loopw [29,7] (fun i y Q=>∃k:Nat,k<=ks.length/\i= .int .i64 k/\y= .int .i64 ((ks.take k).map ByteArray.size).sum/\Chg w Q []/\E2 Q H.heap.size ks k)
    (fun i _ _=>ks.length-(intOf i).toNat)
   case atStart=>exact⟨0,by omega,rfl,by simp,by rw[<-P];exact p.alloc _,by rw[<-P];exact E2.made _ _⟩
   case round=>
    obtain⟨k,am,rfl,rfl,h,q⟩:=hrel;by_cases D:k<ks.length
    .have m:(Ad ks)[k]? =some (.string ks[k]):=by simp[Ad,D]
     obtain⟨b',o,y,ae,f⟩:=I.o k _ m;subst y;have z:=h.keeps f;have u:=J.o ks[k] (List.getElem_mem D);have g:ks[k]? =some ks[k]:=Q9 D
     have t:ks[k]∉ks.take k:=by
      intro hm;obtain⟨j,r⟩:=List.mem_iff_getElem?.1 hm;rw[List.getElem?_take]at r;split at r
      .have:=(List.getElem?_inj (show j<ks.length by omega) Z.o).1 (r.trans g.symm)
       omega
      .cases r
     obtain⟨s,d⟩:∃s,s=ks[k]:=⟨_,rfl⟩
     rw[<-d]at z u g t;obtain⟨cc,an⟩:=q.look_ok (s:=s) (by unfold maxLen;omega) false (by simp[t]);have V:=hZ q;have S:=hZ g;have aa:=hZ t
     have ad:Hid (((ks.take (k+1)).map ByteArray.size).sum=((ks.take k).map ByteArray.size).sum+s.size):=by
      unfold Hid;rw[List.take_add_one,g];simp
     have R:((ks.take k).map ByteArray.size).sum<=1099511627776:=by
      have e:(ks.map ByteArray.size).sum=((ks.take k).map ByteArray.size).sum+((ks.drop k).map ByteArray.size).sum:=by
       rw[<-List.sum_append,<-List.map_append,List.take_append_drop]
      omega
     clear m f d q g t;obtain⟨M,n⟩:∃M,M=((ks.take k).map ByteArray.size).sum:=⟨_,rfl⟩
     rw[<-n]at R;have Y:=hZ n;rw[<-n];clear n
     go_wp2_with(first
      |(at_mapUpdate;refine CV _ rfl _ _ _ rfl H.heap.size k ks rfl V.o s rfl rfl S.o aa.o (by unfold maxLen;omega) (by omega) ?_;intro w5 ah A)
      |(go_at_call 106;refine(Au _ _).mono ?_;rintro e w3 ⟨rfl,rfl⟩))
     go_roundw
     case rel=>exact⟨k+1,by omega,by go_num,by rw[ad.o,<-Y.o];go_num,h.fresh A (by have:=p.size;simp;omega),ah⟩
     case measure=>simp[intOf];omega
    .have B:k=ks.length:=by omega
     subst B;have X:=hZ (W.o.kept h);have U:=hZ h;rw[List.take_length]
     have ak:(ks.map ByteArray.size).sum<=1099511627776:=af;clear q h
     go_wp2_with(first
      |(go_at_call 112;go_loud(refine(JS F T b sv l vs _ X.o ks.length (by omega)).mono ?_;rintro e w5 ⟨rfl,A⟩)))
     exact⟨rfl,⟨102,rfl⟩,U.o.trans A⟩
theorem Ks(F:Nat->Prop)(T:Ti)(b:Nat)(sv:Vl)(l:List Tr)(vs:List Vl)(w:Wl)(hM:C3 w F T b sv l vs)(G:Nat->Prop)(sk:Vl)(ks:List BY)(hK:Ax w G sk (Ad ks))(hG:∀k,G k->k<w.heap.size)(hr:∀s∈ks,Utf.Al s=true)(m:∀s∈ks,s.size<=2147483648)(f:ks.length<=65536)(a0:ks.Nodup)(b3:(ks.map ByteArray.size).sum<=1099511627776)(hF:EJ l)(hn:ks.length<=l.length)(hl:l.length<=2147483648)(hw:(Ag (D1 ks (l.drop (l.length-ks.length)))).within=false):
  Cl prog 115 #[.pointer (some ⟨b,0,none⟩),sk] w (PT w):=by
 obtain⟨a,c,rfl,aU⟩:=hK.cell;have al:(Ad ks).length=ks.length:=by simp[Ad]
 have HK:=hZ hK;have HC:=hZ aU;have HR:=hZ hr;have HS:=hZ m;have HM:=hZ hM;have aM:=hZ a0;have b8:=@run_makeMap prog;have br:=hZ hw;clear hw;clear hM hK hr m a0 aU;rw[al];go_enter func115,ntmps115
 go_wp2_with fail
 go_loopw [18] (fun i wr=>∃k:Nat,k<=ks.length/\i= .int .i64 k/\Chg w wr [])
  (fun i _=>ks.length-(intOf i).toNat)
 case atStart=>exact⟨0,by omega,rfl,Chg.refl _ _⟩
 case round=>
  obtain⟨k,b5,rfl,d⟩:=hrel;by_cases aC:k<ks.length
  .have X:(Ad ks)[k]? =some (.string ks[k]):=by simp[Ad,aC]
   obtain⟨b',o,ax,bv,S⟩:=HC.o k _ X;subst ax;have aA:=d.keeps S;have aG:=HR.o ks[k] (List.getElem_mem aC);have am:=HS.o ks[k] (List.getElem_mem aC);obtain⟨s,m⟩:∃s,s=ks[k]:=⟨_,rfl⟩
   rw[<-m]at aA aG am;have bp:=hZ aG;clear X S aG m
   go_wp2_with(first
    |(go_at_call 101;refine(Dq s _ am).mono ?_;rintro e w2 ⟨rfl,bz⟩;rw[bp.o])
    |(go_at_call 106;refine(Au _ _).mono ?_;rintro e w3 ⟨rfl,rfl⟩))
   go_roundw
   case rel=>exact⟨k+1,by omega,by go_num,d.trans bz⟩
   case measure=>simp[intOf];omega
  .have W:k=ks.length:=by omega
   subst W;obtain⟨wa,bR⟩:∃x,x=wr:=⟨_,rfl⟩
   subst bR;go_wp2_with fail
   generalize bb:wa.alloc (.map #[] 0)=w2
   go_loopw [29,7] (fun i y wq=>∃k:Nat,k<=ks.length/\i= .int .i64 k/\y= .int .i64 ((ks.take k).map ByteArray.size).sum/\Chg w wq []/\E2 wq wa.heap.size ks k)
    (fun i _ _=>ks.length-(intOf i).toNat)
   case atStart=>exact⟨0,by omega,rfl,by simp,by rw[<-bb];exact d.alloc _,by rw[<-bb];exact E2.made _ _⟩
   case round=>
    obtain⟨k,b6,rfl,rfl,J,y⟩:=hrel;by_cases aD:k<ks.length
    .have X:(Ad ks)[k]? =some (.string ks[k]):=by simp[Ad,aD]
     obtain⟨b',o,ax,bv,S⟩:=HC.o k _ X;subst ax;have aA:=J.keeps S;have am:=HS.o ks[k] (List.getElem_mem aD);have V:ks[k]? =some ks[k]:=Q9 aD
     have A:ks[k]∉ks.take k:=by
      intro z;obtain⟨j,hj⟩:=List.mem_iff_getElem?.1 z;rw[List.getElem?_take]at hj;split at hj
      .have:=(List.getElem?_inj (show j<ks.length by omega) aM.o).1 (hj.trans V.symm)
       omega
      .cases hj
     obtain⟨s,m⟩:∃s,s=ks[k]:=⟨_,rfl⟩
     rw[<-m]at aA am V A;obtain⟨cc,bG⟩:=y.look_ok (s:=s) (by unfold maxLen;omega) false (by simp[A]);have ad:=hZ y;have bi:=hZ V;have bo:=hZ A
     have bq:Hid (((ks.take (k+1)).map ByteArray.size).sum=((ks.take k).map ByteArray.size).sum+s.size):=by
      unfold Hid;rw[List.take_add_one,V];simp
     have HB:((ks.take k).map ByteArray.size).sum<=1099511627776:=by
      have e:(ks.map ByteArray.size).sum=((ks.take k).map ByteArray.size).sum+((ks.drop k).map ByteArray.size).sum:=by
       rw[<-List.sum_append,<-List.map_append,List.take_append_drop]
      omega
     clear X S m y V A;obtain⟨M,ah⟩:∃M,M=((ks.take k).map ByteArray.size).sum:=⟨_,rfl⟩
     rw[<-ah]at HB;have bn:=hZ ah;rw[<-ah];clear ah
     go_wp2_with(first
      |(at_mapUpdate;refine CV _ rfl _ _ _ rfl wa.heap.size k ks rfl ad.o s rfl rfl bi.o bo.o (by unfold maxLen;omega) (by omega) ?_;intro w5 bE bA)
      |(go_at_call 106;refine(Au _ _).mono ?_;rintro e w3 ⟨rfl,rfl⟩))
     go_roundw
     case rel=>exact⟨k+1,by omega,by go_num,by rw[bq.o,<-bn.o];go_num,J.fresh bA (by have:=d.size;simp;omega),bE⟩
     case measure=>simp[intOf];omega
    .have W:k=ks.length:=by omega
     subst W;obtain⟨wb,bS⟩:∃x,x=wr:=⟨_,rfl⟩
     subst bS;have bQ:=HM.o.items.length;have E:=hZ (HM.o.kept J);rw[List.take_length];have ad:=hZ y;clear y;have bh:=hZ hF;obtain⟨S,hS⟩:∃S,(Bk (l.drop (vs.length-ks.length))).over (ks.map ByteArray.size).sum=S:=⟨_,rfl⟩
     have aO:=hZ hS;clear hS;obtain⟨s1,s2,s3⟩:=S
     go_wp2_with(first
      |(go_at_call 112;go_loud(refine(GS F T b sv l vs _ E.o ks.length hn hl).mono ?_;rintro e w5 ⟨v5,rfl,Y,bP,O⟩))
      |(go_at_call 114;go_loud(
        refine(Ie (fun k=>F k\/v5.ownBlock=some k) v5 (l.drop (vs.length-ks.length)) (vs.drop (vs.length-ks.length)) _ w5 (Y.rowAt fun g d=> .inr d)
         ((E.o.items.kept (O.keepsF E.o.lt) (fun _ h=> .inl h)).drop _) (by
          rintro k (f|f)
          .exact Q6 (E.o.lt k f) O.size
          .exact Y.lt f) (bh.o.drop _) (by simp;omega) (by omega)).mono ?_
        rintro e w6 ⟨rfl,aj⟩;rw[aO.o];unfold SC))
      |(go_at_call 42;go_loud(
        have aK:=hZ (HK.o.kept ((J.trans (O.trans aj)).keepsF hG) (fun _ h=>h));rw[al]at aK;refine(DL G _ _ w6 aK.o (by intro u hu;simp[Ad]at hu;obtain⟨_,_,rfl⟩:=hu;rfl) (by rw[al];omega)).mono ?_
        rintro e D ⟨v7,rfl,Z,an,aH⟩;obtain⟨n,q,rfl,bx⟩:=Z.form;rw[al]at Z an|-))
      |(go_at_call 156;go_loud(
        refine(J9 ks n q _ HR.o HS.o (by omega) (Z.kept ((Chg.refl D []).alloc _))).mono ?_;rintro e P ⟨rfl,aS,ak⟩
        have A:D.heap.size∉(Vl.slice n ks.length q).ownBlock.toList:=by
         intro z;have:=Z.lt (g:=D.heap.size) (by simpa using z);omega
        have ap:=hZ ((Ac.new D [.int .i64 s1,.int .i64 s2,.int .i64 s3,.slice n ks.length q,.slice none 0 0] 231).kept ak A)
        obtain⟨bY,bZ,bT,bU,bV,bW,bX⟩:=GA ap.o)))
     have bI:=O.size;have bJ:=aj.size;have bK:=aH.size;have a4:=ak.size;have b9:=J.size;have b4:=ad.o.lt;simp only[World.size_alloc]at a4;have a2:∀i,i∈(Vl.slice n ks.length q).ownBlock.toList->w6.heap.size<=i:=fun i hi=>an i (by simpa using hi)
     have aJ:=hZ (((aj.trans aH).alloc (.cells #[.int .i64 s1,.int .i64 s2,.int .i64 s3,.slice n ks.length q,.slice none 0 0] 231)).fresh ak (fun i hi=>by have:=a2 i hi;omega));have ab:=hZ (O.trans aJ.o);have ae:=hZ (Y.kept aJ.o);have ar:∀g,v5.ownBlock=some g->g≠D.heap.size:=fun g d=>by have:=Y.lt d;omega
     have bk:=hZ (ad.o.kept ab.o);have bm:=hZ (E.o.kept ab.o);have af:=hZ aS;have aq:=hZ A;have bg:=hZ J;have M:=hZ bQ;have bH:D.heap.size<P.heap.size:=by omega
     have bd:Hid (∀g,(Vl.slice n ks.length q).ownBlock=some g->wb.heap.size<=g):=fun g d=>by have:=an g d;omega
     have ay:wb.heap.size<=D.heap.size:=by omega
     clear bI bJ bK Y bP O aj Z an aH ak aS A J a2 bY bZ bT bU bV bW bX bx;obtain⟨o,ho⟩:∃o,o=D.heap.size:=⟨_,rfl⟩
     rw[<-ho]at bH ap ay aq ar|-;have bc:=hZ ar;clear ho a4 ar
     go_loopw [72] (fun i wr=>∃k:Nat,∃C,k<=ks.length/\i= .int .i64 k/\Chg P wr [o]/\Ac wr o [.int .i64 s1,.int .i64 s2,.int .i64 s3,.slice n ks.length q,C] 231/\
       AK wr C 62 ((Kv ks (vs.drop (vs.length-ks.length))).take k)/\∀g,C.ownBlock=some g->P.heap.size<=g)
      (fun i _=>ks.length-(intOf i).toNat)
     case atStart=>exact⟨0,_,by omega,rfl,Chg.refl _ _,ap.o,AK.nil _ _,fun g d=>by cases d⟩
     case round=>
      obtain⟨k,C,b7,rfl,aX,au,aR,aT⟩:=hrel;obtain⟨lo,fo,p0,p1,p2,p3,p4⟩:=GA au;have v:=hZ aX;have be:=hZ au;have aL:=hZ aR;have ag:=hZ aT;clear aX au aR aT;by_cases aE:k<ks.length
      .have a7:k<(AY ks).length:=by rw[A3];exact aE
       have m:(AY ks)[k]? =some (AY ks)[k]:=Q9 a7;obtain⟨s,a6⟩:∃s,s=(AY ks)[k]:=⟨_,rfl⟩
       rw[<-a6]at m;clear a6 a7;have z:s∈ks:=D9.1 (Qi m);have aF:=Gk z;have a3:=Dk z;obtain⟨u,N,bN⟩:=Mw (vs:=vs.drop (vs.length-ks.length)) (by rw[Qm];have:=M.o;omega) m;obtain⟨B,y⟩:∃B,B=A5 ks s:=⟨_,rfl⟩
       rw[<-y]at aF a3 N;clear y
       have bO:∃t,Af P F t u:=by
        have bC:=bm.o.items.drop (vs.length-ks.length);have bD:B<(l.drop (vs.length-ks.length)).length:=by rw[Qm];have:=M.o;omega
        obtain⟨v',c1,c2⟩:=bC.get B _ (Q9 bD)
        rw[N]at c1;injection c1 with c1;subst c1
        exact⟨_,c2⟩
       obtain⟨tu,a9⟩:=bO;obtain⟨ti,xi,rfl⟩:=a9.iface
       have aZ:∃H,n=some ⟨H,0,none⟩/\wr.cell? ⟨H,k,none⟩=some (.string s):=by
        obtain⟨a',c',R,aw⟩:=af.o.form
        injection R with e1 _ e3
        subst e1;obtain⟨H,rfl⟩:=aw (by intro h0;have K:=congrArg List.length h0;unfold Ad at K;rw[List.length_map,A3]at K;rw[K]at aE;simp at aE);have az:P.cell? ⟨H,k,none⟩=some (.string s):=af.o.cell rfl k _ (by simp[Ad,m]);refine⟨H,rfl,(v.o.cell (p:=⟨H,k,none⟩) (af.o.lt rfl) ?_).trans az⟩;have:=aq.o;simp[Vl.ownBlock]at this|-;exact fun e=>this e.symm
       obtain⟨H,rfl,aZ⟩:=aZ
       have ba:∃r c5,v5= .slice (some ⟨r,0,none⟩) ks.length c5/\wr.cell? ⟨r,B,none⟩=some (.iface ti xi):=by
        obtain⟨a',c',R,aw⟩:=ae.o.form;obtain⟨r,rfl⟩:=aw (by intro h0;rw[h0]at N;simp at N);have bF:(vs.drop (vs.length-ks.length)).length=ks.length:=by rw[Qm];have:=M.o;omega
        rw[bF]at R;refine⟨r,c',R, ?_⟩;have h5:v5.ownBlock=some r:=by rw[R];rfl
        have az:P.cell? ⟨r,B,none⟩=some (.iface ti xi):=ae.o.cell h5 B _ N;refine(v.o.cell (p:=⟨r,B,none⟩) (ae.o.lt h5) ?_).trans az;have:=bc.o r h5;simp;exact this
       obtain⟨r,c5,rfl,ba⟩:=ba;have bl:=hZ ((bk.o.kept v.o (by simp;omega)).kept ((Chg.refl wr []).drew));have bL:=HS.o s z;have bG:=bl.o.look (s:=s) (by unfold maxLen;omega) a3 aF
       have ao:Hid (((Kv ks (vs.drop (vs.length-ks.length))).take k).length=k):=by
        unfold Hid;rw[Ql,EP];omega
       have a1:o∉C.ownBlock.toList:=by
        intro hh;have:=ag.o o (by simpa using hh);omega
       have aN:=hZ a1;clear a1 aF N a9 z m bL;go_wp2
       go_region_law(first|(refine Df rfl _ _ _ rfl 62 .nilIface 16 underlying127 Ge rfl C ((Kv ks (vs.drop (vs.length-ks.length))).take k) (by rfl) (by exact aL.o.kept (bs:=[]) (by exact cg cR) (by simp)) wr.heap.size (.iface ti xi) (by rfl) (by exact Bx (by simp) _ _) rfl (by rw[ao.o];omega) (by rw[ao.o];omega) ?_;rw[ao.o];intro g bu w9 bw aP aQ;have aa:=hZ ((be.o.alloc (.cells #[.iface ti xi] 62)).drew.kept aP aN.o);have c9:w9.cell? ⟨o,4,none⟩=some C:=aa.o.cell 4;have f9:∀j,w9.frozen? ⟨o,j,none⟩=false:=(fun j=>aa.o.frozen j);have ca:=aa.o.lt))
       all_goals
        go_wp2
        go_roundw
        case rel=>
         have G3:=v.o;have bM:=v.o.size;refine⟨k+1,.slice (some ⟨g,0,none⟩) (k+1) bu,by omega,by go_num,(Chg.own (sv:= .slice none 0 0) (by exact cg G3) aP (fun g d=>by cases d) (fun g d=> .inr (ag.o g d))).setCell _ _ (by simp),aa.o.set 4 _, ?_, ?_⟩
         .rw[List.take_add_one,bN]
          exact bw.kept (bs:=[o]) ((Chg.refl _ _).setCell _ _ (by simp)) (by
           intro g' U;simp[Vl.ownBlock]at U;subst U
           rcases aQ with h|h
           .intro I;simp at I;subst I;exact aN.o (by simp[h])
           .simp at h;intro I;simp at I;omega)
         .intro g' U
          simp[Vl.ownBlock]at U;subst U
          rcases aQ with h|h
          .exact ag.o _ h
          .simp at h;omega
        case measure=>simp[intOf];omega
      .have W:k=ks.length:=by omega
       subst W;have aB:(l.drop (vs.length-ks.length)).length=ks.length:=by rw[Qm];have:=M.o;omega
       have aW:(vs.drop (vs.length-ks.length)).length=ks.length:=by rw[Qm];have:=M.o;omega
       have aI:l.drop (l.length-ks.length)=l.drop (vs.length-ks.length):=by rw[M.o]
       have a8:Ag (D1 ks (l.drop (vs.length-ks.length)))=⟨s1,s2,s3⟩:=(Kd aM.o aB.symm).trans aO.o;have bM:=v.o.size;have ai:Chg wb wr []:=ab.o.fresh v.o (by simp;exact ay);have aV:Chg w wr []:=bg.o.trans ai;obtain⟨Q,L⟩:∃Q:Nat->Prop,Q=fun k=>F k\/(wb.heap.size<=k/\k<wr.heap.size):=⟨_,rfl⟩
       have av:C3 wr Q T b sv l vs:=by
        subst L;refine E.o.grown ai (fun k f=> .inl f) (fun k f=>f.imp_right And.left) (fun k f=> ?_)
        rcases f with f|f
        .have:=E.o.lt k f;have:=ai.size;omega
        .exact f.2
       have aY:Af wr Q (D1 ks (l.drop (vs.length-ks.length))) (.iface 137 (.pointer (some ⟨o,0,none⟩))):=by
        have h7:AK wr (.slice n ks.length q) 9 (Ad (AY ks)):=af.o.kept v.o (by
         intro g d I;simp at I;subst I
         exact aq.o (by simp[d]))
        unfold D1;simp only[Af];have e:=a8;unfold D1 at e;rw[e];refine⟨o,.slice n ks.length q,C,Kv ks (vs.drop (vs.length-ks.length)),rfl,by subst L;exact .inr ⟨ay,lo⟩,by rw[A3,DD],p0,p1,p2,p3,h7.rowAt ?_,p4, ?_, ?_⟩
        .intro g d
         subst L;have K:=bd.o g d;have h2:=h7.lt d;exact .inr ⟨K,h2⟩
        .have:=aL.o
         rw[Qn (by rw[EP];omega)]at this;refine this.rowAt fun g d=> ?_
         subst L;have K:=ag.o g d;have h2:=this.lt d;have h3:=ab.o.size;exact .inr ⟨by omega,h2⟩
        .exact Mx (by rw[aB]) (av.items.drop _)
       have b1:=hZ av;have bj:=hZ aY;have bf:=hZ aV
       have bt:Hid ((Ag (D1 ks (l.drop (vs.length-ks.length)))).within=false):=by
        have:=br.o;rwa[aI]at this
       have b0:=hZ L;have b2:=hZ aI;obtain⟨a5,c5,e5,_⟩:=ae.o.form;rw[aW]at e5;subst e5;clear aB aW aI a8 ai av aY aV L
       go_wp2_with(first
        |(go_at_call 113;go_loud(refine(IZ Q _ _ b ks.length _ bj.o bt.o).mono ?_;rintro e w9 ⟨rfl,bB⟩)))
       exact⟨rfl,⟨3,rfl⟩,bf.o.trans bB⟩
end
end Go.Proofs.YtkfnkppdhcaeoaaGreatDoor

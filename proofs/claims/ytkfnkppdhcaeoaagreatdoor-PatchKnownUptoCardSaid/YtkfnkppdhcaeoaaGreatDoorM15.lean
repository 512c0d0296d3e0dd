/- Part 15 of the proof of coreBase. -/
import Derived.Shelf.Spec.SlicesInsertGrow
import Derived.Test.YtkfnkppdhcaeoaaGreatDoorM14
set_option maxRecDepth 100000
set_option maxHeartbeats 32000000
set_option linter.all false
namespace Go.Proofs.YtkfnkppdhcaeoaaGreatDoor
open Go renaming Calls->Cl,TypeId->Ti,Value->Vl,World->Wl
open Go.Value renaming agg->nA,iface->nF,int->nI,pointer->nP,slice->nS,string->nG,tuple->nT
open Go.IntKind renaming i64->nX
open Go.Ending renaming returned->nR
open Go.Obj renaming cells->nC
open Option renaming none->nN,some->nM
section
open _root_.Go.Proofs.Tryz
open Go Go.RowKit Tree Ptr
theorem Jh:(prog.info? 95).map (fun i=>(i.zero,i.size,i.bytes))=nM (nM .nilIface,1,16):=Yb
theorem ab:∀(k:Nat) (t:Tr) (F:Nat->Prop) (v:Vl) (w:Wl),(Ag t).nodes<=k->(Ag t).nodes<=65536->Hm w F t v->(∀b,F b->b<w.heap.size)->Cl prog 76 #[v] w (SF t w):=by
 intro k
 induction k with
 |zero=>intro t _ _ _ h;have:=Cv t;omega
 |succ k ih=>
  intro t F v w hk aV r hF;have aR:=Bj t
  have aa:∀u v w',u∈Ab t->Hm w' F u v->(∀b,F b->b<w'.heap.size)->Cl prog 76 #[v] w' (SF u w'):=by
   intro u v w' C a5 a1;obtain⟨i,hi⟩:=List.mem_iff_getElem?.1 C;have:=CO hi;exact ih u F v w' Zj Zj a5 a1
  clear ih;cases t
  case null=>
   simp only[Hm]at r;subst r;simp only[AG];have ai:∀(w:Wl),(Instr.typeAssert (nF 271 (nA #[])) 144 141 true).run prog w= .ok (nT #[nS nN 0 0,.bool false]) w:=fun _=>Yb
   have ao:∀(w:Wl),(Instr.typeAssert (nF 271 (nA #[])) 144 149 true).run prog w= .ok (nT #[nS nN 0 0,.bool false]) w:=fun _=>Yb
   have aD:∀(w:Wl),(Instr.typeAssert (nF 271 (nA #[])) 144 181 false).run prog w= .ok (nF 271 (nA #[])) w:=fun _=>Yb
   go_enter func76,ntmps76
   go_wp2
   go_ret
   exact⟨_,[],rfl,⟨rfl,rfl⟩,BP.nil _,by exact ot⟩
  case flag x=>
   simp only[Hm]at r;subst r;simp only[AG];have ai:∀(w:Wl),(Instr.typeAssert (nF 272 (.bool x)) 144 141 true).run prog w= .ok (nT #[nS nN 0 0,.bool false]) w:=fun _=>Yb
   have ao:∀(w:Wl),(Instr.typeAssert (nF 272 (.bool x)) 144 149 true).run prog w= .ok (nT #[nS nN 0 0,.bool false]) w:=fun _=>Yb
   have aD:∀(w:Wl),(Instr.typeAssert (nF 272 (.bool x)) 144 181 false).run prog w= .ok (nF 272 (.bool x)) w:=fun _=>Yb
   go_enter func76,ntmps76
   go_wp2
   go_ret
   exact⟨_,[],rfl,⟨rfl,rfl⟩,BP.nil _,by exact ot⟩
  case num x=>
   simp only[Hm]at r;subst r;simp only[AG];have ai:∀(w:Wl),(Instr.typeAssert (nF 273 (.float .f64 x)) 144 141 true).run prog w= .ok (nT #[nS nN 0 0,.bool false]) w:=fun _=>Yb
   have ao:∀(w:Wl),(Instr.typeAssert (nF 273 (.float .f64 x)) 144 149 true).run prog w= .ok (nT #[nS nN 0 0,.bool false]) w:=fun _=>Yb
   have aD:∀(w:Wl),(Instr.typeAssert (nF 273 (.float .f64 x)) 144 181 false).run prog w= .ok (nF 273 (.float .f64 x)) w:=fun _=>Yb
   go_enter func76,ntmps76
   go_wp2
   go_ret
   exact⟨_,[],rfl,⟨rfl,rfl⟩,BP.nil _,by exact ot⟩
  case text x=>
   simp only[Hm]at r;subst r;simp only[AG];have ai:∀(w:Wl),(Instr.typeAssert (nF 179 (nG x)) 144 141 true).run prog w= .ok (nT #[nS nN 0 0,.bool false]) w:=fun _=>Yb
   have ao:∀(w:Wl),(Instr.typeAssert (nF 179 (nG x)) 144 149 true).run prog w= .ok (nT #[nS nN 0 0,.bool false]) w:=fun _=>Yb
   have aD:∀(w:Wl),(Instr.typeAssert (nF 179 (nG x)) 144 181 false).run prog w= .ok (nF 179 (nG x)) w:=fun _=>Yb
   go_enter func76,ntmps76
   go_wp2
   go_ret
   exact⟨_,[],rfl,⟨rfl,rfl⟩,BP.nil _,by exact ot⟩
  case list d=>
   simp only[Hm]at r;obtain⟨sl,vv,rfl,X,hi⟩:=r;obtain⟨T,c,rfl,aQ⟩:=X.cell;have ad:=hi.length;rw[ad]at X|-;simp only[Ab]at aR aa;have aU:d.length<=65536:=Zj
   have a0:=hZ ad;have ai:∀(w:Wl),(Instr.typeAssert (nF 141 (nS T d.length c)) 144 141 true).run prog w= .ok (nT #[nS T d.length c,.bool true]) w:=fun _=>Yb
   have R:=hZ hi;have HK:=hZ aa;have M:=hZ hF;have HC:=hZ aQ;clear hi aa hF aQ X aV hk ad;go_enter func76,ntmps76
   go_wp2_with fail
   obtain⟨B,N⟩:=Ue w.heap.size
   obtain⟨I,D⟩:=Ue (w.alloc (nC #[nS nN 0 0] 107))
   have ap:Hid (Ac I B [nS nN 0 0] 107):=by rw[D,N];exact hZ (Ac.new w _ _)
   have av:Hid (Chg w I []):=by rw[D];exact hZ ((Chg.refl w []).alloc _)
   have Z:=UD (BP w [B]) ⟨Zh,fun b a=>by simp at a;omega⟩;have ba:B<I.heap.size:=by rw[D,N];simp
   have az:=UD (GD w I [B] [] (nS nN 0 0) [] []) (GD.nil Z.o (fun b a=>by simp at a;omega));rw[<-D,<-N];clear D N;go_loopw [19] (fun aM wr=>∃(i:Nat) (sv:Vl) (vs:List Vl) (A:List Nat),i<=d.length/\aM= nI nX i/\Ac wr B [sv] 107/\GD w wr [B] (d.take i) sv vs A/\Chg w wr []) (fun aM _=>d.length-(intOf aM).toNat)
   case atStart=>exact⟨0,_,[],[],Zj,rfl,ap.o,by simpa using az.o,av.o⟩
   case round=>
    obtain⟨i,sv,vs,A,a4,rfl,q,f,m⟩:=hrel;by_cases al:i<d.length
    .obtain⟨u,C⟩:∃u,d[i]? =nM u:=⟨_,Q9 al⟩
     obtain⟨vu,O,V⟩:=R.o.get i u C;obtain⟨ti,xi,rfl⟩:=V.iface;obtain⟨vb,vo,rfl,a2,ak⟩:=HC.o i _ O;have a9:=m.keeps ak;have am:=Qi C;have O:=Hm.kept (m.keepsF M.o) (fun _ h=>h) _ _ V;have R:=UD (∀o,Chg wr o []->Cl prog 76 #[nF ti xi] o (fun e l=>∃H p,e= nR H/\AP l u H p/\BP wr p/\Chg wr l [])) fun o n=>(HK.o u _ o am (Hm.kept (n.keepsF (fun b a=>Q6 (M.o b a) m.size)) (fun _ h=>h) _ _ O) (fun b a=>Q6 (M.o b a) (Q7 m.size n.size))).mono fun e l ⟨H,p,e1,E,P,G⟩=>⟨H,p,e1,E,P.of_le n.size,n.trans G⟩
     obtain⟨z,c0,rfl,_⟩:=f.lst.form;have Y:vs.length=i:=by rw[f.at_.length,Ql];omega
     rw[Y]at f q;have aj:=q.cell 0;have aq:=UD (B∉(Vl.slice z i c0).ownBlock.toList) fun K=>f.new.apart B Zh (Qe _ K)
     have S:=hZ f;have ar:=hZ q;have ae:=hZ m;have aA:=hZ C;have U:=hZ Y;have aE:wr.cell? ⟨B,0,nN⟩=nM (nS z i c0):=aj;clear f q m C V O am Y aj;go_wp2_with fail
     go_region_law
      (first
       |(go_simp;go_at_call 76;refine(R.o _ (by exact ot)).mono ?_;rintro e l ⟨H,p,rfl,E,P,G⟩;obtain⟨aL,x1,rfl⟩:=E.iface;have aK:=G.keeps aE;have a7:=World.block_lt_of_cell? l _ aK;have K2:=hZ E;have K3:=hZ P;have J:=hZ G;clear E P G)
       |(go_loud(refine Df rfl _ _ _ rfl 95 .nilIface 16 underlying105 Jh rfl (nS z i c0) vs ZN (by exact(S.o.lst.kept J.o).kept (bs:=[]) (by exact ot) Zh) l.heap.size (nF aL x1) ZN (by exact Bx rfl _ _) rfl (by rw[U.o];omega) (by rw[U.o];omega) ?_;rw[U.o];intro g aB w7 ah af ag;have ay:=hZ ah;have Q:=UD (Chg l w7 (Vl.slice z i c0).ownBlock.toList) ((((Chg.refl l []).alloc _).none _).trans af);have aw:=UD ((Vl.slice z i c0).ownBlock=nM g\/l.heap.size<=g) (ag.imp id (fun h=>by rw[World.size_alloc]at h;omega));have L:=hZ ((ar.o.kept J.o).kept Q.o aq.o);have a6:=L.o.cell 0;have a3:∀j,w7.frozen? ⟨B,j,nN⟩=false:=(fun j=>L.o.frozen j);have a8:=L.o.lt;clear ah af ag)))
     all_goals
      go_wp2_with fail
      go_roundw
      case rel=>
       have W:=S.o.push K2.o K3.o J.o ay.o Q.o aw.o ae.o.size;rw[<-Cb aA.o]at W;have aF:B∉(Vl.slice (nM ⟨g,0,nN⟩) (i+1) aB).ownBlock.toList++(A++p):=W.new.apart B Zh;refine⟨i+1,_,_,_,Zj,by go_num,L.o.set 0 _,W.kept (cs:=[B]) ((Chg.refl _ _).setCell _ _ Zh) (fun b a=>by simp at a;subst a;exact aF), ?_⟩;refine Chg.setCell ((ae.o.trans J.o).step Q.o fun j hj hl=> ?_) _ _ (fun hl=> ?_)
       .have:=S.o.new.ge j (Qd _ (Qe _ hj));omega
       .exact absurd hl (by have:=Z.o.ge B Zh;simp;omega)
      case measure=>simp[intOf];omega
    .have aG:i=d.length:=by omega
     rw[aG,Qn (Q8 _)]at f;go_wp2
     go_ret
     exact⟨_,B::(sv.ownBlock.toList++A),rfl,by simp only[AP];exact⟨B,sv,vs,A,rfl,q,f.lst,f.at_,rfl⟩,by simpa using f.new,m⟩
  case obj kk d=>
   simp only[Hm]at r;obtain⟨T,c,vv,rfl,aJ,X,hi⟩:=r;have ad:=hi.length;simp only[Ab]at aR aa;have aU:d.length<=65536:=Zj
   have a0:=hZ ad;have ai:∀(w:Wl),(Instr.typeAssert (nF 149 (nS T d.length c)) 144 141 true).run prog w= .ok (nT #[nS nN 0 0,.bool false]) w:=fun _=>Yb
   have ao:∀(w:Wl),(Instr.typeAssert (nF 149 (nS T d.length c)) 144 149 true).run prog w= .ok (nT #[nS T d.length c,.bool true]) w:=fun _=>Yb
   have R:=hZ hi;have HK:=hZ aa;have M:=hZ hF;have HC:=hZ X;clear hi aa hF aV hk ad;have aX:=UD (∀o,Chg w o []->Cl prog 127 #[nS T d.length c] o (KP kk o)) fun o n=>Rq F kk d vv T c o aJ (Dc.kept (n.keepsF M.o) (fun _ h=>h) _ _ R.o) (X.kept (n.keepsF M.o) (fun _ h=>h)) aU
   clear X;go_enter func76,ntmps76
   go_wp2_with(first
    |(go_at_call 127;refine(aX.o _ (by exact ot)).mono ?_;rintro e w0 ⟨sk,rfl,aH,aS,aT⟩;obtain⟨ka,kc,rfl,_⟩:=aH.form;have an:=hZ aH;have ax:=hZ aS;have aO:=hZ (Chg.trans (b:=_) (by exact ot) aT);clear aH aS aT))
   obtain⟨y,aC⟩:=Ue (Vl.slice ka (Ad kk).length kc)
   obtain⟨B,N⟩:=Ue w0.heap.size
   obtain⟨I,D⟩:=Ue (w0.alloc (nC #[nS nN 0 0,y] 177))
   have ap:Hid (Ac I B [nS nN 0 0,y] 177):=by rw[D,N];exact hZ (Ac.new w0 _ _)
   have au:Hid (Chg w0 I []):=by rw[D];exact hZ ((Chg.refl w0 []).alloc _)
   have av:=UD (Chg w I []) (aO.o.trans au.o);rw[<-aC]at an ax;have aW:=UD (AK I y 9 (Ad kk)) (an.o.kept au.o)
   have Z:Hid (BP w (B::y.ownBlock.toList)):=by
    have hz:=aO.o.size;have al:=an.o.ltB;refine hZ ⟨List.nodup_cons.2 ⟨fun K=> ?_,ax.o.nodup⟩,fun b a=> ?_⟩
    .have:=al B K;omega
    .rcases Qh.1 a with rfl|a
     .omega
     .exact ax.o.ge b a
   have aZ:Hid (∀b,b∈B::y.ownBlock.toList->b<I.heap.size):=by
    refine hZ fun b a=> ?_
    have hz:=au.o.size
    rcases Qh.1 a with rfl|a
    .rw[D,N];simp
    .have:=an.o.ltB b a;omega
   have az:=UD (GD w I (B::y.ownBlock.toList) [] (nS nN 0 0) [] []) (GD.nil Z.o aZ.o);rw[<-aC,<-D,<-N];have aP:=hZ aJ;clear D N aC aJ;go_loopw [46] (fun aN wr=>∃(i:Nat) (sv:Vl) (vs:List Vl) (A:List Nat),i<=d.length/\aN= nI nX i/\Ac wr B [sv,y] 177/\AK wr y 9 (Ad kk)/\GD w wr (B::y.ownBlock.toList) (d.take i) sv vs A/\Chg w wr []) (fun aN _=>d.length-(intOf aN).toNat)
   case atStart=>exact⟨0,_,[],[],Zj,rfl,ap.o,aW.o,by simpa using az.o,av.o⟩
   case round=>
    obtain⟨i,sv,vs,A,a4,rfl,q,aI,f,m⟩:=hrel;by_cases al:i<d.length
    .obtain⟨u,C⟩:∃u,d[i]? =nM u:=⟨_,Q9 al⟩
     obtain⟨s,hs⟩:∃s,kk[i]? =nM s:=⟨_,Q9 (by have:=aP.o;omega)⟩
     obtain⟨vu,O,V⟩:=R.o.get i u C;obtain⟨ti,xi,rfl⟩:=V.iface;obtain⟨g1,g2⟩:=Mi hs O
     rcases HC.o with h0|⟨vb,vo,rfl,a2,ak⟩
     .rw[h0]at g1;simp at g1
     have e0:vo+i*2=vo+2*i:=Zj
     have c0:wr.cell? ⟨vb,vo+i*2,nN⟩=nM (nG s):=by rw[e0];exact m.keeps (ak _ _ g1)
     have c1:wr.cell? ⟨vb,vo+i*2+1,nN⟩=nM (nF ti xi):=by rw[e0];exact m.keeps (ak _ _ g2)
     have am:=Qi C;have O:=Hm.kept (m.keepsF M.o) (fun _ h=>h) _ _ V;have R:=UD (∀o,Chg wr o []->Cl prog 76 #[nF ti xi] o (fun e l=>∃H p,e= nR H/\AP l u H p/\BP wr p/\Chg wr l [])) fun o n=>(HK.o u _ o am (Hm.kept (n.keepsF (fun b a=>Q6 (M.o b a) m.size)) (fun _ h=>h) _ _ O) (fun b a=>Q6 (M.o b a) (Q7 m.size n.size))).mono fun e l ⟨H,p,e1,E,P,G⟩=>⟨H,p,e1,E,P.of_le n.size,n.trans G⟩
     obtain⟨z,q0,rfl,_⟩:=f.lst.form;have Y:vs.length=i:=by rw[f.at_.length,Ql];omega
     rw[Y]at f q;have aj:=q.cell 0;have aq:=UD (B∉(Vl.slice z i q0).ownBlock.toList) fun K=>f.new.apart B (List.mem_cons_self ..) (Qe _ K)
     have S:=hZ f;have ar:=hZ q;have ae:=hZ m;have aY:=hZ aI;have bb:=q.lt;have aA:=hZ C;have U:=hZ Y;have aE:wr.cell? ⟨B,0,nN⟩=nM (nS z i q0):=aj;clear f q aI m C hs V O am Y aj g1 g2 ak e0;go_wp2_with fail
     go_region_law
      (first
       |(go_simp;go_at_call 76;refine(R.o _ (by exact ot)).mono ?_;rintro e l ⟨H,p,rfl,E,P,G⟩;obtain⟨aL,x1,rfl⟩:=E.iface;have aK:=G.keeps aE;have a7:=World.block_lt_of_cell? l _ aK;have K2:=hZ E;have K3:=hZ P;have J:=hZ G;clear E P G)
       |(go_loud(refine Df rfl _ _ _ rfl 95 .nilIface 16 underlying105 Jh rfl (nS z i q0) vs ZN (by exact(S.o.lst.kept J.o).kept (bs:=[]) (by exact ot) Zh) l.heap.size (nF aL x1) ZN (by exact Bx rfl _ _) rfl (by rw[U.o];omega) (by rw[U.o];omega) ?_;rw[U.o];intro g aB w7 ah af ag;have ay:=hZ ah;have Q:=UD (Chg l w7 (Vl.slice z i q0).ownBlock.toList) ((((Chg.refl l []).alloc _).none _).trans af);have aw:=UD ((Vl.slice z i q0).ownBlock=nM g\/l.heap.size<=g) (ag.imp id (fun h=>by rw[World.size_alloc]at h;omega));have L:=hZ ((ar.o.kept J.o).kept Q.o aq.o);have a6:=L.o.cell 0;have a3:∀j,w7.frozen? ⟨B,j,nN⟩=false:=(fun j=>L.o.frozen j);have a8:=L.o.lt;clear ah af ag)))
     all_goals
      go_wp2_with fail
      go_roundw
      case rel=>
       have W:=S.o.push K2.o K3.o J.o ay.o Q.o aw.o ae.o.size;rw[<-Cb aA.o]at W;have aF:B∉(Vl.slice (nM ⟨g,0,nN⟩) (i+1) aB).ownBlock.toList++(A++p):=W.new.apart B (List.mem_cons_self ..);refine⟨i+1,_,_,_,Zj,by go_num,L.o.set 0 _, ?_,W.kept (cs:=[B]) ((Chg.refl _ _).setCell _ _ Zh) (fun b a=>by simp at a;subst a;exact aF), ?_⟩
       .refine((aY.o.kept J.o).kept Q.o (fun x n K=>S.o.new.apart x (Qg _ (by simpa using n)) (Qe _ K))).kept (bs:=[B]) ((Chg.refl _ _).setCell _ _ Zh) (fun x n K=> ?_)
        simp at K;subst K;exact(List.nodup_cons.1 Z.o.nodup).1 (by simpa using n)
       refine Chg.setCell ((ae.o.trans J.o).step Q.o fun j hj hl=> ?_) _ _ (fun hl=> ?_)
       .have:=S.o.new.ge j (Qd _ (Qe _ hj));omega
       .exact absurd hl (by have:=Z.o.ge B Zh;simp;omega)
      case measure=>simp[intOf];omega
    .have aG:i=d.length:=by omega
     rw[aG,Qn (Q8 _)]at f;go_wp2
     go_ret
     exact⟨_,B::(sv.ownBlock.toList++(y.ownBlock.toList++A)),rfl,by simp only[AP];exact⟨B,sv,y,vs,A,rfl,q,f.lst,aI,aP.o,f.at_,rfl⟩,f.new.perm ((Ew _ _ _).cons B),m⟩
theorem FK(v:Vl)(w:Wl):(callMethod (nF 183 (nA #[v])) GK #[]).run prog w= .ok (.enter 320 #[nA #[v]]) w:=Yb
theorem QA(b:Nat)(w:Wl):(callMethod (nF 104 (nP (nM ⟨b,0,nN⟩))) GK #[]).run prog w= .ok (.enter 302 #[nP (nM ⟨b,0,nN⟩)]) w:=Yb
theorem No(b:Nat)(w:Wl):(callMethod (nF 175 (nP (nM ⟨b,0,nN⟩))) GK #[]).run prog w= .ok (.enter 315 #[nP (nM ⟨b,0,nN⟩)]) w:=Yb
def NQ(v:Vl)(t:Tr)(w:Wl):Prop:=∃f args,(callMethod v GK #[]).run prog w= .ok (.enter f args) w/\Cl prog f args w (SF t w)
theorem EG(t:Tr)(a:Vl)(c:∃b x,a= nF b x)(w:Wl)(h:∀w',AP w' t (nF 183 (nA #[a])) []):Cl prog 320 #[nA #[a]] w (SF t w):=by
 obtain⟨b,x,rfl⟩:=c;go_enter func320,ntmps320
 go_wp2
 go_ret
 exact⟨_,[],rfl,h _,BP.nil _,by exact cg cR⟩
def Yh(l:List Tr)(w:Wl)(e:Ending)(w':Wl):Prop:=∃sv vs a,e= nR sv/\GD w w' [] l sv vs a/\Chg w w' []
theorem Y8(l:List Tr)(vs:List Vl)(fs:List Nat)(b:Nat)(a:Option Addr)(c:Nat)(w:Wl)(B:w.cell? ⟨b,0,nN⟩=nM (nS a vs.length c))(N:AK w (nS a vs.length c) 95 vs)(A:PsAt w l vs fs)(hl:l.length<=65536)(J:∀u v y w',u∈l->AP w' u v y->NQ v u w'):
  Cl prog 305 #[nP (nM ⟨b,0,nN⟩)] w (Yh l w):=by
 have T:=A.length;have lb:=World.block_lt_of_cell? w _ B;have I:=hZ N;have HP:=hZ A;have Y:=hZ J;have s:=hZ T;have ai:vs.length<=65536:=Zj
 clear N A J T;go_enter func305,ntmps305
 go_wp2
 go_loopw [3,11] (fun v3 F wr=>∃(k:Nat) (sv:Vl) (us:List Vl) (z:List Nat),k<=vs.length/\F= nI nX k/\sv=v3/\GD w wr [] (l.take k) sv us z/\Chg w wr [])
  (fun _ F _=>vs.length-(intOf F).toNat)
 case atStart=>exact⟨0,_,[],[],Zj,rfl,rfl,by simpa using GD.nil (BP.nil w) (fun b B=>by cases B),by exact cg cR⟩
 case round=>
  obtain⟨k,sv,us,z,hk,rfl,rfl,d,i⟩:=hrel;by_cases ae:k<vs.length
  .obtain⟨u,o⟩:∃u,l[k]? =nM u:=⟨_,Q9 (by have:=s.o;omega)⟩
   obtain⟨v,y,S,C,_⟩:=HP.o.get o
   obtain⟨g,rfl⟩:∃g,a=nM ⟨g,0,nN⟩:=by
    obtain⟨a',c',e,h⟩:=I.o.form
    injection e with e1
    subst e1;exact h (by intro e;subst e;simp at ae)
   obtain⟨ti,x,rfl⟩:=C.iface;have ah:wr.cell? ⟨g,k,nN⟩=nM (nF ti x):=i.keeps (I.o.cell rfl k _ S);obtain⟨f,args,Q,P⟩:=Y.o u _ y wr (Qi o) (C.chg i Zh);obtain⟨m,n,rfl,_⟩:=d.lst.form;have D:us.length=k:=by rw[d.at_.length,Ql];have:=s.o;omega
   rw[D]at d|-;have q:=hZ d;have H:=hZ i;have ab:=hZ o;have r:=hZ D;have aa:=hZ Q;have W:=hZ P;clear Q P d i o S C D
   go_wp2_with(first
    |(refine Am rfl _ _ _ rfl _ rfl f args aa.o _ W.o ?_;rintro e p ⟨v1,bv,rfl,E,U,V⟩;refine⟨_,rfl, ?_⟩;obtain⟨af,x1,rfl⟩:=E.iface;have K2:=hZ E;have K3:=hZ U;have t:=hZ V;clear E U V)
    |(refine AM rfl _ _ _ rfl 95 .nilIface 16 underlying105 Jh rfl (nS m k n) us ZN (by exact(q.o.lst.kept t.o).kept (bs:=[]) (by exact cg cR) Zh) p.heap.size (nF af x1) ZN (by exact Bx rfl _ _) rfl (by rw[r.o];omega) (by rw[r.o];omega) ?_;rw[r.o];intro K ag w7 O L M;have Z:=hZ O;have G:=UD (Chg p w7 (Vl.slice m k n).ownBlock.toList) ((((Chg.refl p []).alloc _).none _).trans L);have X:=UD ((Vl.slice m k n).ownBlock=nM K\/p.heap.size<=K) (M.imp id (fun h=>by rw[World.size_alloc]at h;omega));clear O L M))
   go_roundw
   case rel=>
    have R:=q.o.push K2.o K3.o t.o Z.o G.o X.o H.o.size;rw[<-Cb ab.o]at R;refine⟨k+1,_,_,_,Zj,by go_num,rfl,R,(H.o.trans t.o).step G.o fun j hj hl=> ?_⟩;have:=q.o.new.ge j (by simpa using Or.inl hj);omega
   case measure=>simp[intOf];omega
  .have ad:l.take k=l:=Qn (by have:=s.o;omega)
   rw[ad]at d;obtain⟨m,n,rfl,_⟩:=d.lst.form;go_wp2
   go_ret
   exact⟨_,us,z,rfl,d,i⟩
theorem NI(l:List Tr)(vs:List Vl)(m:List Nat)(b:Nat)(a:Option Addr)(c:Nat)(w:Wl)(s:w.cell? ⟨b,0,nN⟩=nM (nS a vs.length c))(q:AK w (nS a vs.length c) 95 vs)(r:PsAt w l vs m)(A:l.length<=65536)(k:∀u v z w',u∈l->AP w' u v z->NQ v u w'):
  Cl prog 302 #[nP (nM ⟨b,0,nN⟩)] w (SF (.list l) w):=by
 have y:=hZ (Y8 l vs m b a c w s q r A k);clear s q r k;go_enter func302,ntmps302
 go_wp2_with(first
  |(go_at_call 305;refine y.o.mono ?_;rintro e f ⟨sv,us,n,rfl,d,o⟩;obtain⟨g,h,rfl,_⟩:=d.lst.form;have t:=hZ d;have j:=hZ o;clear d o))
 go_ret
 have d:=t.o;have p:=d.kept (cs:=[]) ((Chg.refl f []).alloc (nC #[nS g us.length h] 107)) Zh;refine⟨_,f.heap.size::((Vl.slice g us.length h).ownBlock.toList++n),rfl, ?_,⟨List.nodup_cons.2 ⟨fun B=> ?_,by simpa using d.new.nodup⟩,fun x i=> ?_⟩,by exact cg j.o⟩
 .simp only[AP]
  exact⟨f.heap.size,_,us,n,rfl,Ac.new f [nS g us.length h] _,p.lst,p.at_,rfl⟩
 .have:=d.ltAll _ (by simpa using B);omega
 .rcases Qh.1 i with rfl|i
  .exact j.o.size
  .exact d.new.ge x (by simpa using i)
theorem cA{w:Wl}{sk:Vl}(h:∀g,sk.ownBlock=nM g->w.heap.size<=g):BP w sk.ownBlock.toList:=by
 refine⟨?_,fun b a=>h b (by simpa using a)⟩;cases sk.ownBlock<;>simp
theorem LB(ks:List BY)(l:List Tr)(vs:List Vl)(V:List Nat)(b:Nat)(a:Option Addr)(c:Nat)(B:Option Addr)(C:Nat)(w:Wl)(M:Ac w b [nS a vs.length c,nS B ks.length C] 177)(X:AK w (nS a vs.length c) 95 vs)(W:AK w (nS B ks.length C) 9 (Ad ks))(Y:PsAt w l vs V)(hl:l.length<=65536)(aa:ks.length=l.length)(U:∀u v bu w',u∈l->AP w' u v bu->NQ v u w'):
  Cl prog 315 #[nP (nM ⟨b,0,nN⟩)] w (SF (.obj ks l) w):=by
 have Z:w.cell? ⟨b,0,nN⟩=nM (nS a vs.length c):=M.cell 0;have A:w.cell? ⟨b,1,nN⟩=nM (nS B ks.length C):=M.cell 1
 have Q:=UD (∀s r,Chg w r []->Chg r s []->Cl prog 305 #[nP (nM ⟨b,0,nN⟩)] s fun e k=>∃m n us q,e= nR (nS m us.length n)/\AK k (nS m us.length n) 95 us/\PsAt k l us q/\BP r ((Vl.slice m us.length n).ownBlock.toList++q)/\(∀x,x∈(Vl.slice m us.length n).ownBlock.toList++q->x<k.heap.size)/\Chg r k []) fun s r E j=>
  (Y8 l vs V b a c s ((E.trans j).keeps Z) (X.kept (E.trans j)) (Y.chg (E.trans j) Zh) hl U).mono fun e k ⟨sv,us,q,h0,d,f⟩=>by
   obtain⟨m,n,rfl,_⟩:=d.lst.form;exact⟨m,n,us,q,h0,d.lst,d.at_,(by simpa using d.new:BP s _).of_le j.size,fun x j=>d.ltAll x (by simpa using j),j.trans f⟩
 have R:=UD (∀s r,Chg w r []->Chg r s []->Cl prog 42 #[nS B ks.length C] s fun e k=>∃o p,e= nR (nS o (Ad ks).length p)/\AK k (nS o (Ad ks).length p) 9 (Ad ks)/\BP r (Vl.slice o (Ad ks).length p).ownBlock.toList/\Chg r k []) fun s r E j=>by
  have hk:=W.kept (E.trans j);refine(DL (fun g=>(Vl.slice B ks.length C).ownBlock=nM g) _ _ s hk.toRow (Gu ks) (by rw[Ao];omega)).mono ?_;rintro e k ⟨sk,rfl,d,f,i⟩;obtain⟨o,p,rfl,_⟩:=d.form;exact⟨o,p,rfl,d,(cA f).of_le j.size,j.trans i⟩
 have ab:=hZ aa;clear M X W Y U Z aa;go_enter func315,ntmps315
 go_wp2_with fail
 go_region_held3(fun w'=>w'.cell? ⟨b,1,nN⟩=nM (nS B ks.length C)) (first|exact A|exact O|exact N|exact(fun h:Chg y _ []=>h.keeps O) (by exact cg cR)|exact(fun h:Chg I _ []=>h.keeps N) (by exact cg cR)|exact(fun h:Chg w _ []=>h.keeps A) (by exact cg cR))
  (first
   |(go_at_call 305;refine(Q.o _ I G.o (by exact cg cR)).mono ?_;rintro e k ⟨m,n,us,q,rfl,d,f,i,H,z⟩;have D:=UD (Chg w k []) (G.o.trans z);have J:=UD (AK k (nS o (Ad ks).length p) 9 (Ad ks)) (S.o.kept z);have T:=UD (BP w ((Vl.slice o (Ad ks).length p).ownBlock.toList++((Vl.slice m us.length n).ownBlock.toList++q))) (af.o.append S.o.ltB i G.o.size);have K:=hZ d;have L:=hZ f;obtain⟨y,rfl⟩:=Ue k;have O:=D.o.keeps A;clear d f i H z)
   |(go_at_call 305;refine(Q.o _ w cR (by exact cg cR)).mono ?_;rintro e k ⟨m,n,us,q,rfl,d,f,i,H,z⟩;have F:=hZ z;have ae:=hZ i;have ad:=hZ d;have ag:=hZ f;have ah:=hZ H;obtain⟨I,rfl⟩:=Ue k;have N:=F.o.keeps A;clear d f i H z)
   |(go_at_call 42;refine(R.o _ I F.o (by exact cg cR)).mono ?_;rintro e w2 ⟨o,p,rfl,d,f,i⟩;have D:=UD (Chg w w2 []) (F.o.trans i);have J:=hZ d;have T:=UD (BP w ((Vl.slice o (Ad ks).length p).ownBlock.toList++((Vl.slice m us.length n).ownBlock.toList++q))) ((ae.o.append ah.o f F.o.size).perm List.perm_append_comm);have K:=hZ (ad.o.kept i);have L:=hZ (ag.o.chg i Zh);obtain⟨y,rfl⟩:=Ue w2;have O:=D.o.keeps A;clear d f i)
   |(go_at_call 42;refine(R.o _ w cR (by exact cg cR)).mono ?_;rintro e w2 ⟨o,p,rfl,d,f,i⟩;have G:=hZ i;have af:=hZ f;have S:=hZ d;obtain⟨I,rfl⟩:=Ue w2;have N:=G.o.keeps A;clear d f i))
 all_goals
  go_wp2_with fail
  go_ret
  have P:Chg y (y.alloc (nC #[nS m us.length n,nS o (Ad ks).length p] 177)) []:=(Chg.refl y []).alloc _;refine⟨_,y.heap.size::((Vl.slice m us.length n).ownBlock.toList++((Vl.slice o (Ad ks).length p).ownBlock.toList++q)),rfl, ?_, ?_,by exact cg D.o⟩
  .simp only[AP]
   exact⟨y.heap.size,_,_,us,q,rfl,Ac.new y [nS m us.length n,nS o (Ad ks).length p] _,K.o.kept P,J.o.kept P,ab.o,L.o.chg P Zh,rfl⟩
  .have hn:=T.o.perm (Ew (Vl.slice m us.length n).ownBlock.toList (Vl.slice o (Ad ks).length p).ownBlock.toList q)
   refine⟨List.nodup_cons.2 ⟨fun t=> ?_,hn.nodup⟩,fun x j=> ?_⟩
   .simp only[Qf]at t
    rcases t with t|t|t
    .have:=K.o.ltB _ t;omega
    .have:=J.o.ltB _ t;omega
    .have:=PsAt.lt _ _ _ L.o _ t;omega
   .rcases Qh.1 j with rfl|j
    .exact D.o.size
    .exact hn.ge x j
theorem Xq:∀(k:Nat) (t:Tr) (v:Vl) (bs:List Nat) (w:Wl),(Ag t).nodes<=k->(Ag t).nodes<=65536->AP w t v bs->NQ v t w:=by
 intro k
 induction k with
 |zero=>intro t _ _ _ h;have:=Cv t;omega
 |succ k y=>
  intro t v bs w C D d
  have g:∀u v j w',u∈Ab t->AP w' u v j->NQ v u w':=by
   intro u v j w' s r;obtain⟨i,hi⟩:=List.mem_iff_getElem?.1 s;have:=CO hi;exact y u v j w' Zj Zj r
  have p:=Bj t
  cases t with
  |null=>
   simp only[AP]at d;obtain⟨rfl,rfl⟩:=d;exact⟨_,_,FK _ w,EG .null _ ⟨_,_,rfl⟩ w (fun _=>by simp[AP,AG])⟩
  |flag x=>
   simp only[AP]at d;obtain⟨rfl,rfl⟩:=d;exact⟨_,_,FK _ w,EG (.flag x) _ ⟨_,_,rfl⟩ w (fun _=>by simp[AP,AG])⟩
  |num x=>
   simp only[AP]at d;obtain⟨rfl,rfl⟩:=d;exact⟨_,_,FK _ w,EG (.num x) _ ⟨_,_,rfl⟩ w (fun _=>by simp[AP,AG])⟩
  |text x=>
   simp only[AP]at d;obtain⟨rfl,rfl⟩:=d;exact⟨_,_,FK _ w,EG (.text x) _ ⟨_,_,rfl⟩ w (fun _=>by simp[AP,AG])⟩
  |list l=>
   simp only[AP]at d;obtain⟨b,B,vs,m,rfl,f,e,n,rfl⟩:=d;obtain⟨a,c,rfl,_⟩:=e.form;simp only[Ab]at p g;exact⟨_,_,QA b w,NI l vs m b a c w (f.cell 0) e n Zj g⟩
  |obj ks l=>
   simp only[AP]at d;obtain⟨b,B,sk,vs,m,rfl,f,e,o,q,n,rfl⟩:=d;obtain⟨a,c,rfl,_⟩:=e.form;obtain⟨z,A,rfl,_⟩:=o.form;rw[Ao]at f o;simp only[Ab]at p g;exact⟨_,_,No b w,LB ks l vs m b a c z A w f e o n Zj q g⟩
theorem MC(ks:List BY)(l:List Tr)(vs:List Vl)(M:List Nat)(b:Nat)(a:Option Addr)(c:Nat)(k:Option Addr)(m:Nat)(w:Wl)(hB:Ac w b [nS a vs.length c,nS k ks.length m] 177)(hL:AK w (nS a vs.length c) 95 vs)(hK:AK w (nS k ks.length m) 9 (Ad ks))(hP:PsAt w l vs M)(hl:l.length<=65536)(aI:ks.length=l.length)(G:Nat->Prop)(sv:Vl)(n:Nat)(L:List Ap)(xs:List Vl)(F:Nj (b::((Vl.slice a vs.length c).ownBlock.toList++((Vl.slice k ks.length m).ownBlock.toList++M))) G sv n L xs w)(hn:n+(Ag (.obj ks l)).nodes<=4294967296)(V:∀x,x∈b::((Vl.slice a vs.length c).ownBlock.toList++((Vl.slice k ks.length m).ownBlock.toList++M))->x<w.heap.size)(IH:∀u v bu w',u∈l->AP w' u v bu->(∀x,x∈bu->x<w'.heap.size)->LQ v u bu w'):
  Cl prog 317 #[nP (nM ⟨b,0,nN⟩),sv] w (CJ G sv n (Ag (.obj ks l)).nodes (L++MW (.obj ks l)) w):=by
 have aK:=hP.length;have aC:(Ag (.obj ks l)).nodes=(Bk l).nodes+1:=by simp only[Ag,Sz.over];omega
 rw[aC]at hn|-;obtain⟨BS,O⟩:=Ue (b::((Vl.slice a vs.length c).ownBlock.toList++((Vl.slice k ks.length m).ownBlock.toList++M)))
 rw[<-O]at F V;have ax:w.cell? ⟨b,0,nN⟩=nM (nS a vs.length c):=hB.cell 0;have S:w.cell? ⟨b,1,nN⟩=nM (nS k ks.length m):=hB.cell 1;have lb:=hB.lt;have am:b∈BS:=by rw[O];simp
 have az:b∉sv.ownBlock.toList:=fun d=>(F.own b (by simpa using d)).1 am
 have aD:∀x,w.heap.size<=x->x∉sv.ownBlock.toList:=fun x y d=>by have:=F.lst.lt (by simpa using d);omega
 have aB:∀g,(Vl.slice k ks.length m).ownBlock=nM g->g∉sv.ownBlock.toList:=fun g i d=>(F.own g (by simpa using d)).1 (by rw[O];simp[i])
 have HW:=UD (∀q,Chg w q []->Cl prog 306 #[nP (nM ⟨b,0,nN⟩),sv] q fun e D=>∃C,e= nR C/\I9 BS G sv (n+(Bk l).nodes) (L++KH l) w C D/\Chg q D sv.ownBlock.toList/\(∀g,C.ownBlock=nM g->sv.ownBlock=nM g\/q.heap.size<=g)) fun q y=>
  (I4 l vs M BS b a c q (y.keeps ax) (hL.kept y) (hP.chg y Zh) (fun x ag=>by rw[O];simp only[Qh,Qf]at ag|-;rcases ag with h|h|h;exact .inl h;exact .inr (.inl h);exact .inr (.inr (.inr h))) (fun x ag=>Q6 (V x ag) y.size) hl G sv n L xs (F.kept y) Zj IH).mono fun e D h=>by
   obtain⟨C,he,d⟩:=I9.of F V y h;obtain⟨v2,_,_,aA,_,_,hc,ho,_⟩:=h;have:C=v2:=by rw[he]at aA;injection aA
   subst this;exact⟨C,he,d,hc,ho⟩
 have ao:=UD (∀q,Chg w q sv.ownBlock.toList->Cl prog 42 #[nS k ks.length m] q (Dm q 9 (Ad ks))) fun q y=>by
  have B:=hK.kept y aB;exact DL (fun g=>(Vl.slice k ks.length m).ownBlock=nM g) _ _ q B.toRow (Gu ks) (by rw[Ao];omega)
 have ai:=hZ az;have ak:=hZ aD;have an:=hZ am;have aF:=hZ V;have I:=UD ((n+(Bk l).nodes+1)*72<=140737488355328/\n+(Bk l).nodes<=140737488355328) ⟨Zj,Zj⟩;clear hB hL hP F V IH aC am az aD O hn aK hK aB ax aI;obtain⟨M,hM⟩:=Ue ((Bk l).nodes)
 rw[<-hM]at HW I|-;obtain⟨N,hN⟩:=Ue (n+M)
 rw[<-hN]at HW I;have aG:=hZ hN;clear hN hM;go_enter func317,ntmps317
 go_wp2_with fail
 go_region_held3(fun w'=>w'.cell? ⟨b,1,nN⟩=nM (nS k ks.length m)) (first|exact S|exact E|exact al|exact ay|exact(fun h:Chg r _ []=>h.keeps E) (by exact cg cR)|exact(fun h:Chg w2 _ []=>h.keeps al) (by exact cg cR))
  (first
   |(go_at_call 306;refine(HW.o _ (by exact cg aj.o)).mono ?_;rintro e D ⟨C,rfl,d,U,af⟩;obtain⟨s,c1,rfl⟩:=d.slots;have au:=UD (∀g,(Vl.slice s N c1).ownBlock=nM g->(Vl.slice z (Ad ks).length A).ownBlock≠nM g) (fun g i B=>by rcases af g i with h|h;exact ak.o g (aa.o g B) (by simp[h]);have h1:=Q7 (Chg.size (a:=w2) (bs:=[]) (by exact cg cR)) h;have h2:=aq.o.lt B;omega);have K:=UD (AK D (nS z (Ad ks).length A) 9 (Ad ks)) ((aq.o.kept (bs:=[]) (by exact cg cR) Zh).kept U (fun g i=>ak.o g (aa.o g i)));obtain⟨r,rfl⟩:=Ue D;have E:=(d.chg.cell (p:=⟨b,1,nN⟩) lb ai.o).trans S;have L:=hZ d;have aE:=hZ U;clear d U af)
   |(go_at_call 306;refine(HW.o _ (by exact cg cR)).mono ?_;rintro e D ⟨C,rfl,d,U,af⟩;obtain⟨s,c1,rfl⟩:=d.slots;have al:=(d.chg.cell (p:=⟨b,1,nN⟩) lb ai.o).trans S;have ab:=hZ d;clear d U af)
   |(go_at_call 42;refine(ao.o _ (by exact cg ab.o.chg)).mono ?_;rintro e w2 ⟨sk,rfl,H,J,T⟩;obtain⟨z,A,rfl,_⟩:=H.form;obtain⟨r,rfl⟩:=Ue w2;have L:=hZ (ab.o.kept T);have K:=hZ H;have E:=(L.o.chg.cell (p:=⟨b,1,nN⟩) lb ai.o).trans S;have aa:=UD (∀g,(Vl.slice z (Ad ks).length A).ownBlock=nM g->w.heap.size<=g) (fun g i=>Q7 ab.o.chg.size (J g i));have au:=UD (∀g,(Vl.slice s N c1).ownBlock=nM g->(Vl.slice z (Ad ks).length A).ownBlock≠nM g) (fun g i B=>by obtain⟨G1,ah,h1,_⟩:=ab.o.ex;have h2:=h1.lst.lt i;have h3:D.heap.size<=g:=J g B;omega);clear H J T)
   |(go_at_call 42;refine(ao.o _ (by exact cg ((Chg.refl w []).none _))).mono ?_;rintro e w2 ⟨sk,rfl,H,J,T⟩;obtain⟨z,A,rfl,_⟩:=H.form;have aj:=UD (Chg w w2 []) ((Chg.refl w []).drew.trans T);have aq:=hZ H;have al:=aj.o.keeps S;have aa:=UD (∀g,(Vl.slice z (Ad ks).length A).ownBlock=nM g->w.heap.size<=g) J;clear H J T)
   |(obtain⟨G1,ah,t,W,X⟩:=L.o.ex;(refine Bw rfl _ _ _ rfl 72 Iq 6 72 ZM underlying22 DM rfl (nS s N c1) N ah ZN (by exact t.lst.kept (bs:=[]) (by exact cg cR) Zh) r.heap.size (AI ⟨6,false,0,Dz,0,ks⟩ (nS z (Ad ks).length A)) ZN ZN (by exact Ff _ _ _) (C0 _ _ _ _) I.o.1 I.o.2 ?_);intro g aH Y R P Q;have ar:=hZ R;have Z:=UD (Chg r Y (Vl.slice s N c1).ownBlock.toList) ((((Chg.refl r []).alloc _).none _).trans P);have ap:=UD ((Vl.slice s N c1).ownBlock=nM g\/r.heap.size<=g) (Q.imp id (fun h=>by rw[World.size_alloc]at h;omega));have ad:=hZ t;have av:=hZ W;have aw:=hZ X;have ay:Y.cell? ⟨b,1,nN⟩=nM (nS k ks.length m):=(Z.o.cell (World.block_lt_of_cell? r _ E) (fun d=>(t.own b (by simpa using d)).1 an.o)).trans E;clear R P Q t W X)
   |(obtain⟨G1,ah,t,W,X⟩:=L.o.ex;(refine Bw rfl _ _ _ rfl 72 Iq 6 72 ZM underlying22 DM rfl (nS s N c1) N ah ZN (by exact t.lst.kept (bs:=[]) (by exact cg cR) Zh) w2.heap.size (AI ⟨6,false,0,Dz,0,ks⟩ (nS z (Ad ks).length A)) ZN ZN (by intro j v hv;exact(aE.o.cell (p:=⟨w2.heap.size,j,nN⟩) Zh (ak.o _ aj.o.size)).trans (Ff _ _ _ j v hv)) (C0 _ _ _ _) I.o.1 I.o.2 ?_);intro g aH Y R P Q;have ar:=hZ R;have Z:=UD (Chg r Y (Vl.slice s N c1).ownBlock.toList) (P);have ap:=UD ((Vl.slice s N c1).ownBlock=nM g\/r.heap.size<=g) (Q.imp id (fun h=>Nat.le_of_eq h.symm));have ad:=hZ t;have av:=hZ W;have aw:=hZ X;have ay:Y.cell? ⟨b,1,nN⟩=nM (nS k ks.length m):=(Z.o.cell (World.block_lt_of_cell? r _ E) (fun d=>(t.own b (by simpa using d)).1 an.o)).trans E;clear R P Q t W X))
 all_goals
  go_wp2_with fail
  go_ret
  have e:=aG.o;subst e;rw[YT,<-List.append_assoc];have hs:(Aa (.obj ks l)).toI=⟨6,false,0,Dz,0,ks⟩:=rfl;rw[hs];refine I9.put (G2:=fun b=>G1 b\/(Vl.slice z (Ad ks).length A).ownBlock=nM b) L.o aF.o ad.o av.o aw.o ar.o Z.o ap.o ?_ ?_ (fun _ h=> .inl h) (fun b h hl=>h.resolve_right fun B=> ?_) (fun b h=> ?_) (fun g i h=> ?_)
  .have:=K.o.rowC
   rw[Ao]at this|-;exact this
  .intro b o n c e
   injection e with e1
   subst e1
   right
   obtain⟨a',c',e2,h⟩:=K.o.form
   injection e2 with e2
   by_cases aJ:Ad ks=[]
   .have f:=K.o.2
    rcases f with⟨f,_⟩|⟨g',aL,aM,f,_⟩
    .injection f with f;cases f
    .injection f with f;injection f with f;injection f with f h1;subst f;rfl
   .obtain⟨g',ae⟩:=h aJ
    rw[<-e2]at ae
    injection ae with ae
    injection ae with f h1
    subst f;rfl
  .have:=aa.o b B;omega
  .rcases h with h|h
   .exact ad.o.ltG b h
   .exact K.o.lt h
  .rcases h with h|h
   .exact(ad.o.own g i).2 h
   .exact au.o g i h
theorem YJ:∀(k:Nat) (t:Tr) (v:Vl) (bs:List Nat) (w:Wl),(Ag t).nodes<=k->Av t->(Ag t).within=true->AP w t v bs->(∀x,x∈bs->x<w.heap.size)->LQ v t bs w:=by
 intro k
 induction k with
 |zero=>intro t _ _ _ h;have:=Cv t;omega
 |succ k F=>
  intro t v bs w K D A d s G sv n L xs e f
  have o:∀u v g w',u∈Ab t->AP w' u v g->(∀x,x∈g->x<w'.heap.size)->LQ v u g w':=by
   intro u v g w' y E C;obtain⟨i,hi⟩:=List.mem_iff_getElem?.1 y;have:=CO hi;exact F u v g w' Zj (D.items u y) (C8 A y) E C
  have M:=Ar A;have z:=Bj t
  cases t with
  |null=>
   simp only[AP]at d;obtain⟨rfl,rfl⟩:=d;exact⟨_,_,GZ _ sv w,JW G sv n L xs w e (by simpa[Ag]using f)⟩
  |flag x=>
   simp only[AP]at d;obtain⟨rfl,rfl⟩:=d;exact⟨_,_,GZ _ sv w,JV x G sv n L xs w e (by simpa[Ag]using f)⟩
  |num x=>
   simp only[AP]at d;obtain⟨rfl,rfl⟩:=d;exact⟨_,_,GZ _ sv w,Ky x G sv n L xs w e (by simpa[Ag]using f)⟩
  |text x=>
   simp only[AP]at d;obtain⟨rfl,rfl⟩:=d;exact⟨_,_,GZ _ sv w,JX x G sv n L xs w e (by simpa[Ag]using f)⟩
  |list l=>
   simp only[AP]at d;obtain⟨b,J,vs,p,rfl,m,j,q,rfl⟩:=d;obtain⟨a,c,rfl,_⟩:=j.form;simp only[Ab]at z o;exact⟨_,_,TW b sv w,Pm l vs p b a c w m j q Zj G sv n L xs e f s o⟩
  |obj ks l=>
   simp only[AP]at d;obtain⟨b,J,sk,vs,p,rfl,m,j,r,B,q,rfl⟩:=d;obtain⟨a,c,rfl,_⟩:=j.form;obtain⟨H,I,rfl,_⟩:=r.form;rw[Ao]at m r e s;simp only[Ab]at z o;exact⟨_,_,PH b sv w,MC ks l vs p b a c H I w m j r q Zj B G sv n L xs e f s o⟩
structure LN(t:Tr)(w:Wl)(sv:Vl)(w':Wl):Prop where
 chg:Chg w w' []
 ex:∃G xs,Ba w' sv 72 6 (Ag t).nodes xs/\Cr w' G (MW t) xs/\(∀b,G b->w.heap.size<=b/\b<w'.heap.size)/\(∀g,sv.ownBlock=nM g->w.heap.size<=g/\¬G g)
theorem Le{t:Tr}{v:Vl}{bs:List Nat}{w:Wl}(a:Av t)(i:(Ag t).within=true)(d:AP w t v bs):
  ∃f args,(callMethod v EB #[nS nN 0 0]).run prog w= .ok (.enter f args) w/\Cl prog f args w fun e w'=>∃sv,e= nR sv/\LN t w sv w':=by
 have s:=Ar i;obtain⟨f,args,k,l⟩:=YJ _ t v bs w (Q8 _) a i d (AP.lt t v bs d) (fun _=>False) (nS nN 0 0) 0 [] [] ⟨Ba.nil _ _ _,rfl,fun g a=>(by cases a),fun b c=>c.elim⟩ Zj;refine⟨f,args,k,l.mono ?_⟩;rintro e w' ⟨sv,G,xs,rfl,j,m,n,o,u,p,q,r⟩;rw[Nat.zero_add]at j;refine⟨sv,rfl,n,G,xs,j,by simpa using m,fun b c=>⟨?_,q b c⟩,fun g a=>⟨?_,r g a⟩⟩
 .by_cases h:b<w.heap.size
  .exact(p b c h).elim
  .omega
 .rcases o g a with h|h
  .cases h
  .exact h
theorem L4:(prog.info? 144).map (fun i=>(i.zero,i.size,i.bytes))=nM (nM .nilIface,1,16):=Yb
theorem KX:(prog.info? 236).map (fun i=>(i.zero,i.size,i.bytes))=nM (nM (nA #[nG ⟨#[]⟩,.nilIface]),2,32):=Yb
theorem Vt:∀(k:Nat) (t:Tr) (F:Nat->Prop) (v:Vl) (w:Wl),(Ag t).nodes<=k->(Ag t).nodes<=65536->Af w F t v->(∀b,F b->b<w.heap.size)->Cl prog 116 #[nA #[v]] w (Ht t w):=by
 intro k
 induction k with
 |zero=>intro t _ _ _ h;have:=Cv t;omega
 |succ k ih=>
  intro t F v w hk ax n N;have av:=Bj t
  have O:∀u v w',u∈Ab t->Af w' F u v->(∀b,F b->b<w'.heap.size)->Cl prog 116 #[nA #[v]] w' (Ht u w'):=by
   intro u v w' p aL aE;obtain⟨i,hi⟩:=List.mem_iff_getElem?.1 p;have:=CO hi;exact ih u F v w' Zj Zj aL aE
  clear ih;cases t
  case null=>
   simp only[Af]at n;subst n;have c:∀(w:Wl),(Instr.typeAssert (nF 214 (nA #[])) 62 214 true).run prog w= .ok (nT #[nA #[],.bool true]) w:=fun _=>Yb
   go_enter func116,ntmps116
   go_wp2
   go_ret
   exact⟨_,fun _=>False,rfl,rfl,by exact cg cR,fun _ h=>h.elim⟩
  case flag x=>
   simp only[Af]at n;subst n;have c:∀(w:Wl),(Instr.typeAssert (nF 215 (.bool x)) 62 214 true).run prog w= .ok (nT #[nA #[],.bool false]) w:=fun _=>Yb
   have a1:∀(w:Wl),(Instr.typeAssert (nF 215 (.bool x)) 62 215 true).run prog w= .ok (nT #[.bool x,.bool true]) w:=fun _=>Yb
   go_enter func116,ntmps116
   go_wp2
   go_ret
   exact⟨_,fun _=>False,rfl,rfl,by exact cg cR,fun _ h=>h.elim⟩
  case num x=>
   simp only[Af]at n;subst n;have c:∀(w:Wl),(Instr.typeAssert (nF 219 (.float .f64 x)) 62 214 true).run prog w= .ok (nT #[nA #[],.bool false]) w:=fun _=>Yb
   have a1:∀(w:Wl),(Instr.typeAssert (nF 219 (.float .f64 x)) 62 215 true).run prog w= .ok (nT #[.bool false,.bool false]) w:=fun _=>Yb
   have a2:∀(w:Wl),(Instr.typeAssert (nF 219 (.float .f64 x)) 62 219 true).run prog w= .ok (nT #[.float .f64 x,.bool true]) w:=fun _=>Yb
   go_enter func116,ntmps116
   go_wp2
   go_ret
   exact⟨_,fun _=>False,rfl,rfl,by exact cg cR,fun _ h=>h.elim⟩
  case text x=>
   simp only[Af]at n;subst n;have c:∀(w:Wl),(Instr.typeAssert (nF 220 (nG x)) 62 214 true).run prog w= .ok (nT #[nA #[],.bool false]) w:=fun _=>Yb
   have a1:∀(w:Wl),(Instr.typeAssert (nF 220 (nG x)) 62 215 true).run prog w= .ok (nT #[.bool false,.bool false]) w:=fun _=>Yb
   have a2:∀(w:Wl),(Instr.typeAssert (nF 220 (nG x)) 62 219 true).run prog w= .ok (nT #[.float .f64 0,.bool false]) w:=fun _=>Yb
   have a3:∀(w:Wl),(Instr.typeAssert (nF 220 (nG x)) 62 220 true).run prog w= .ok (nT #[nG x,.bool true]) w:=fun _=>Yb
   go_enter func116,ntmps116
   go_wp2
   go_ret
   exact⟨_,fun _=>False,rfl,rfl,by exact cg cR,fun _ h=>h.elim⟩
  case list z=>
   simp only[Af]at n;obtain⟨b,sl,q,rfl,an,_,_,_,c3,hr,hi⟩:=n;obtain⟨sa,sc,rfl,Y⟩:=hr.cell;have ab:=hi.length;simp only[Ab]at av O;have aO:q.length<=65536:=Zj
   have lb:=N b an;have M:=hZ ab;clear ab;have c:∀(w:Wl),(Instr.typeAssert (nF 136 (nP (nM ⟨b,0,nN⟩))) 62 214 true).run prog w= .ok (nT #[nA #[],.bool false]) w:=fun _=>Yb
   have a1:∀(w:Wl),(Instr.typeAssert (nF 136 (nP (nM ⟨b,0,nN⟩))) 62 215 true).run prog w= .ok (nT #[.bool false,.bool false]) w:=fun _=>Yb
   have a2:∀(w:Wl),(Instr.typeAssert (nF 136 (nP (nM ⟨b,0,nN⟩))) 62 219 true).run prog w= .ok (nT #[.float .f64 0,.bool false]) w:=fun _=>Yb
   have a3:∀(w:Wl),(Instr.typeAssert (nF 136 (nP (nM ⟨b,0,nN⟩))) 62 220 true).run prog w= .ok (nT #[nG ⟨#[]⟩,.bool false]) w:=fun _=>Yb
   have a4:∀(w:Wl),(Instr.typeAssert (nF 136 (nP (nM ⟨b,0,nN⟩))) 62 136 true).run prog w= .ok (nT #[nP (nM ⟨b,0,nN⟩),.bool true]) w:=fun _=>Yb
   have HI:=hZ hi;have HK:=hZ O;have D:=hZ N;have HC:=hZ Y;clear hi O N Y hr ax hk;go_enter func116,ntmps116
   go_wp2_with(first
    |(at_make;refine LF rfl _ _ _ rfl 144 .nilIface 16 underlying141 L4 _ _ _ q.length rfl rfl (by first|rfl|omega) Zj (by unfold maxLen;omega) (w.heap.size+1) Zh ?_;intro w1 W Z;have y:=((Chg.refl w []).alloc _).trans Z;have ak:=hZ W;have ah:=hZ y;have aC:=y.keeps c3;have aP:=Q6 lb y.size;clear W Z y))
   go_loopw [8,51] (fun v8 K wr=>∃(i:Nat) (J:Vl),i<=q.length/\K= nI nX i/\J=v8/\T8 w z i J wr) (fun _ K _=>q.length-(intOf K).toNat)
   case atStart=>exact⟨0,_,Zj,rfl,rfl,[],fun _=>False,ak.o,by simp[Dc],fun _ h=>h.elim,fun g o=>⟨by simp[Vl.ownBlock]at o;omega,id⟩,ah.o⟩
   case round=>
    obtain⟨i,J,aJ,rfl,rfl,xs,G,f,m,E,r,d⟩:=hrel;by_cases aK:i<q.length
    .have aq:i<z.length:=by have:=M.o;omega
     obtain⟨u,p⟩:∃u,z[i]? =nM u:=⟨_,Q9 aq⟩
     obtain⟨vu,ad,H⟩:=HI.o.get i u p;obtain⟨ti,xi,rfl⟩:=H.iface;obtain⟨vb,vo,rfl,aG,ap⟩:=HC.o i _ ad;have af:=d.keeps c3;have aI:=d.keeps ap;have P:xs.length=i:=by rw[m.length,Ql];omega
     obtain⟨c,l,rfl,_⟩:=f.form;rw[P]at f r|-;have aj:=hZ (Af.kept (d.keepsF D.o) (fun _ h=>h) _ _ H);have aa:=Qi p;have HU:=hZ (HK.o u _ wr aa aj.o (fun b a=>Q6 (D.o b a) d.size));have R:=hZ f;have H2:=hZ m;have H3:=hZ E;have H4:=hZ r;have H5:=hZ d;have am:=hZ p;have ae:=hZ P;clear f m E r d p ad H aa P
     go_wp2_with(first
      |(go_at_call 116;refine HU.o.mono ?_;rintro e j ⟨Q,L,rfl,A,B,C⟩;obtain⟨au,x1,rfl⟩:=A.iface;have K2:=hZ A;have T:=hZ B;have K4:=hZ C;clear A B C)
      |(refine AM rfl _ _ _ rfl 144 .nilIface 16 underlying141 L4 rfl (nS c i l) xs ZN (by exact R.o.kept (bs:=[]) (by exact cg T.o) Zh) j.heap.size (nF au x1) ZN (by exact Bx rfl _ _) rfl (by rw[ae.o];omega) (by rw[ae.o];omega) ?_;rw[ae.o];intro g aD w7 X U V;have al:=hZ X;have S:=hZ U;have ai:=hZ V;clear X U V))
     go_roundw
     case rel=>exact⟨i+1,_,Zj,by go_num,rfl,T8.next am.o H2.o H3.o H4.o H5.o (fun g o=>R.o.lt o) K2.o T.o K4.o al.o S.o ai.o⟩
     case measure=>simp[intOf];omega
    .have ag:i=z.length:=by have:=M.o;omega
     obtain⟨c,l,rfl,_⟩:=f.form;rw[ag,Qn (Q8 _)]at m;go_wp2
     go_ret
     refine⟨_,fun b=>G b\/(Vl.slice c xs.length l).ownBlock=nM b,rfl, ?_,d,fun b a=> ?_⟩
     .simp only[Hm]
      exact⟨_,xs,rfl,f.rowAt (fun g o=> .inr o),Dc.kept (fun _ _ _=>rfl) (fun _ h=> .inl h) _ _ m⟩
     .rcases a with a|a
      .exact E b a
      .exact⟨(r b a).1,f.lt a⟩
  case obj kk z=>
   simp only[Af]at n;obtain⟨b,aW,sl,q,rfl,an,aT,_,_,_,c3,ar,c4,hr,hi⟩:=n;obtain⟨sa,sc,rfl,Y⟩:=hr.cell;obtain⟨ka,kc,rfl,aw⟩:=ar.cell;rw[Ao]at c3 ar;have ab:=hi.length;simp only[Ab]at av O;have aO:q.length<=65536:=Zj
   have lb:=N b an;have M:=hZ ab;clear ab;have c:∀(w:Wl),(Instr.typeAssert (nF 137 (nP (nM ⟨b,0,nN⟩))) 62 214 true).run prog w= .ok (nT #[nA #[],.bool false]) w:=fun _=>Yb
   have a1:∀(w:Wl),(Instr.typeAssert (nF 137 (nP (nM ⟨b,0,nN⟩))) 62 215 true).run prog w= .ok (nT #[.bool false,.bool false]) w:=fun _=>Yb
   have a2:∀(w:Wl),(Instr.typeAssert (nF 137 (nP (nM ⟨b,0,nN⟩))) 62 219 true).run prog w= .ok (nT #[.float .f64 0,.bool false]) w:=fun _=>Yb
   have a3:∀(w:Wl),(Instr.typeAssert (nF 137 (nP (nM ⟨b,0,nN⟩))) 62 220 true).run prog w= .ok (nT #[nG ⟨#[]⟩,.bool false]) w:=fun _=>Yb
   have a4:∀(w:Wl),(Instr.typeAssert (nF 137 (nP (nM ⟨b,0,nN⟩))) 62 136 true).run prog w= .ok (nT #[nP nN,.bool false]) w:=fun _=>Yb
   have a5:∀(w:Wl),(Instr.typeAssert (nF 137 (nP (nM ⟨b,0,nN⟩))) 62 137 true).run prog w= .ok (nT #[nP (nM ⟨b,0,nN⟩),.bool true]) w:=fun _=>Yb
   have HI:=hZ hi;have HK:=hZ O;have D:=hZ N;have HC:=hZ Y;have ay:=hZ aw;clear hi O N Y aw hr ar ax hk;go_enter func116,ntmps116
   go_wp2_with(first
    |(at_make;refine KM rfl _ _ _ rfl 236 (nA #[nG ⟨#[]⟩,.nilIface]) 2 32 underlying149 KX _ _ _ q.length rfl rfl (by first|rfl|omega) Zj (by unfold maxLen;omega) (w.heap.size+1) Zh ?_;intro w1 W Z;have y:=((Chg.refl w []).alloc _).trans Z;have ak:=hZ W;have ah:=hZ y;have aC:=y.keeps c3;have aQ:=y.keeps c4;have aP:=Q6 lb y.size;clear W Z y))
   go_loopw [12,78] (fun v8 K wr=>∃(i:Nat) (J:Vl),i<=q.length/\K= nI nX i/\J=v8/\cz w kk z i J wr) (fun _ K _=>q.length-(intOf K).toNat)
   case atStart=>exact⟨0,_,Zj,rfl,rfl,[],fun _=>False,by simpa[Kp]using ak.o,by simp[Dc],fun _ h=>h.elim,fun g o=>⟨by simp[Vl.ownBlock]at o;omega,id⟩,ah.o⟩
   case round=>
    obtain⟨i,J,aJ,rfl,rfl,xs,G,f,m,E,r,d⟩:=hrel;by_cases aK:i<q.length
    .have aq:i<z.length:=by have:=M.o;omega
     obtain⟨u,p⟩:∃u,z[i]? =nM u:=⟨_,Q9 aq⟩
     obtain⟨s,hs⟩:∃s,kk[i]? =nM s:=⟨_,Q9 Zj⟩
     obtain⟨vu,ad,H⟩:=HI.o.get i u p;obtain⟨ti,xi,rfl⟩:=H.iface;obtain⟨vb,vo,rfl,aG,ap⟩:=HC.o i _ ad;obtain⟨kb,ko,rfl,aF,aH⟩:=ay.o i (nG s) (by simp[Ad,hs]);have af:=d.keeps c3;have aR:=d.keeps c4;have aI:=d.keeps ap;have ao:=d.keeps aH;have P:xs.length=i:=by rw[m.length,Ql];omega
     obtain⟨c,l,rfl⟩:=f.slots;have aj:=hZ (Af.kept (d.keepsF D.o) (fun _ h=>h) _ _ H);have aa:=Qi p;have HU:=UD (∀wx,Chg wr wx []->Cl prog 116 #[nA #[nF ti xi]] wx (fun e j=>∃Q L,e= nR Q/\Hm j L u Q/\Chg wr j []/\(∀b,L b->wr.heap.size<=b/\b<j.heap.size))) fun wx hx=>(HK.o u _ wx aa (Af.kept (hx.keepsF (fun b a=>Q6 (D.o b a) d.size)) (fun _ h=>h) _ _ aj.o) (fun b a=>Q6 (D.o b a) (Q7 d.size hx.size))).mono fun e j ⟨Q,L,e1,A,B,C⟩=>⟨Q,L,e1,A,hx.trans B,fun b a=>⟨Q7 hx.size (C b a).1,(C b a).2⟩⟩
     have az:=UD (b∉(Vl.slice c i l).ownBlock.toList) fun hm=>by have:=(r b (by simpa using hm)).1;omega
     have aV:=D.o kb aF;have aA:=UD (kb∉(Vl.slice c i l).ownBlock.toList) fun hm=>by have:=(r kb (by simpa using hm)).1;omega
     have R:=hZ f;have H2:=hZ m;have H3:=hZ E;have H4:=hZ r;have H5:=hZ d;have am:=hZ p;have aB:=hZ hs;have ae:=hZ P;have aU:kk.length<=65536:=by have:=M.o;omega
     have aS:i<kk.length:=Zj
     clear f m E r d p hs ad H aa P;have aM:=And.intro af ao;go_wp2_with fail
     go_region_held3(fun w'=>w'.cell? ⟨b,3,nN⟩=nM (nS (nM ⟨kb,ko,nN⟩) kk.length kc)/\w'.cell? ⟨kb,ko+i,nN⟩=nM (nG s)) (first|exact aM|exact I|exact aN|exact(fun h:Chg j _ []=>⟨h.keeps I.1,h.keeps I.2⟩) (by exact cg cR)|exact(fun h:Chg wr _ []=>⟨h.keeps af,h.keeps ao⟩) (by exact cg cR))
      (first
       |(go_at_call 116;refine(HU.o _ (by exact cg cR)).mono ?_;rintro e j ⟨Q,L,rfl,A,B,C⟩;obtain⟨au,x1,rfl⟩:=A.iface;have I:=And.intro (B.keeps af) (B.keeps ao);have K2:=hZ A;have T:=hZ B;have K4:=hZ C;clear A B C)
       |(refine Bw rfl _ _ _ rfl 236 (nA #[nG ⟨#[]⟩,.nilIface]) 2 32 ZM underlying149 KX rfl (nS c i l) i _ ZN (by exact(R.o.kept T.o).kept (bs:=[]) (by exact cg cR) Zh) j.heap.size [nG s,nF au x1] ZN ZN (by exact Ff _ _ _) (by simp[Vl.oneCell']) Zj Zj ?_;intro g aD w7 X U V;have al:=hZ X;have S:=UD (Chg j w7 (Vl.slice c i l).ownBlock.toList) ((((Chg.refl j []).alloc _).none _).trans U);have ai:=UD ((Vl.slice c i l).ownBlock=nM g\/j.heap.size<=g) (V.imp id (fun h=>by rw[World.size_alloc]at h;omega));have aN:=And.intro ((S.o.cell (World.block_lt_of_cell? j _ I.1) az.o).trans I.1) ((S.o.cell (World.block_lt_of_cell? j _ I.2) aA.o).trans I.2);clear X U V))
     all_goals
      go_wp2_with fail
      go_roundw
      case rel=>exact⟨i+1,_,Zj,by go_num,rfl,cz.next am.o aB.o H2.o H3.o H4.o H5.o (fun g o=>R.o.lt o) K2.o T.o K4.o al.o S.o ai.o⟩
      case measure=>simp[intOf];omega
    .have ag:i=z.length:=by have:=M.o;omega
     obtain⟨c,l,rfl⟩:=f.slots;rw[ag,Qn (Q8 _)]at m;rw[Qn Zj]at f;subst ag;go_wp2
     go_ret
     refine⟨_,fun b=>G b\/(Vl.slice c z.length l).ownBlock=nM b,rfl, ?_,d,fun b a=> ?_⟩
     .simp only[Hm]
      exact⟨c,l,xs,rfl,Zj,f.rowN (by rw[K0 (by rw[m.length];omega)];omega) (fun g o=> .inr o),Dc.kept (fun _ _ _=>rfl) (fun _ h=> .inl h) _ _ m⟩
     .rcases a with a|a
      .exact E b a
      .exact⟨(r b a).1,f.lt a⟩
end
section
open _root_.Go.Proofs.Tryz
open Go Go.Shelf Go.RowKit Go.Lib Tree Ptr
theorem Ph(b:Nat)(w:Wl):Cl prog 31 #[.float .f64 b] w fun e w'=>e= nR (nA (AI (Fv b) (nS nN 0 0)).toArray)/\Chg w w' []:=by
 have l:=GX;have f:=UD (Ac (w.alloc (nC #[nI nX 0,.bool false,nI .u64 0,nG {data:=#[]},nI nX 0,nS nN 0 0] 72)) w.heap.size [nI nX 0,.bool false,nI .u64 0,nG {data:=#[]},nI nX 0,nS nN 0 0] 72) (Ac.new w _ _);have h:∀u∈AI (Fv b) (nS nN 0 0),u.oneCell'=true:=C0 _ _ _ _
 go_enter func31,ntmps31
 go_wp2_with(refine Ae rfl _ _ _ rfl w.heap.size (AI (Fv b) (nS nN 0 0)) ZN ZN 72 _ f.o ZN rfl h ?_;intro w2 j a c;have g:=hZ a;have d:=UD (Chg w w2 []) (Chg.step (b:=_) (by exact cg cR) c (fun i hi k=>by simp at hi;omega));clear j a c)
 exact bodyPost_ret (Bi rfl _ _ w.heap.size 72 _ _ rfl g.o underlying72 rfl ZN) rfl ⟨rfl,d.o⟩
theorem BD(w:Wl)(X:Array Vl)(cs:List Vl)(T:Ti)(B:Nat)(b:X=cs.toArray)(a:w.heap.size=B):Ac (w.alloc (nC X T)) B cs T:=by
 subst b;subst a;exact Ac.new w cs T
def IQ:Vl:= nS nN 0 0
def YQ(a b:Nat):List Vl:=AI (Fv f1) IQ++(AI (Fv f2) IQ++(AI (Un 2) IQ++(AI Y7 IQ++(AI (Ve [kC]) (nS (nM ⟨a,0,nN⟩) 1 1)++(AI (Ve [kA,kB]) (nS (nM ⟨b,0,nN⟩) 2 2)++[])))))
theorem As.ofBlk{w:Wl}{g sz n:Nat}{cs:List Vl}{T:Ti}(h:Ac w g cs T)(a:cs.length=n*sz):As w (nS (nM ⟨g,0,nN⟩) n n) sz n cs:=
 ⟨_,_,rfl,Q8 _,a,fun i v b=>⟨g,0,rfl,by rw[Nat.zero_add,h.cell i];exact b⟩⟩
theorem As.nil(w:Wl)(sz:Nat):As w (nS nN 0 0) sz 0 []:=⟨nN,0,rfl,Q8 _,Zh,fun i v a=>by simp at a⟩
theorem Az.cons{w:Wl}{s:Ap}{l:List Ap}{sk:Vl}{xs:List Vl}(h:As w sk 1 s.keys.length (Ad s.keys))(k:Az w l xs):Az w (s::l) (AI s sk++xs):=⟨sk,xs,rfl,h,k⟩
def SI(w:Wl)(e:Ending)(w':Wl):Prop:=∃g xs,e= nR (nS (nM ⟨g,0,nN⟩) 6 6)/\As w' (nS (nM ⟨g,0,nN⟩) 6 6) 6 6 xs/\Az w' Ut xs/\Chg w w' []
theorem Tc(w:Wl):Cl prog 33 #[] w (SI w):=by
 go_enter func33,ntmps33
 go_wp2_with((go_at_call 31;refine(Ph _ _).mono ?_;rintro e a ⟨rfl,h⟩;(first|(have d:=UD (Chg w a []) (c.o.trans h))|(have c:=UD (Chg w a []) h));clear h))
 have f:Ac (a.alloc (nC #[nG {data:=#[99]}] 9)) a.heap.size (Ad [kC]) 9:=BD _ _ _ _ _ rfl rfl;have g:Ac ((a.alloc (nC #[nG {data:=#[99]}] 9)).alloc (nC #[nG {data:=#[97]},nG {data:=#[98]}] 9)) (a.heap.size+1) (Ad [kA,kB]) 9:=BD _ _ _ _ _ rfl Zh;refine bodyPost_ret (results_tmp rfl _ _ _) rfl ⟨a.heap.size+1+1,YQ a.heap.size (a.heap.size+1),rfl, ?_, ?_,by exact cg d.o⟩
 .exact As.ofBlk (T:=72) (BD _ _ _ _ _ rfl Zh) rfl
 .have b:∀w',As w' IQ 1 0 []:=fun w'=>As.nil w' 1
  exact Az.cons (b _) (Az.cons (b _) (Az.cons (b _) (Az.cons (b _) (Az.cons (As.ofBlk ((f.alloc _).alloc _) rfl) (Az.cons (As.ofBlk (g.alloc _) rfl) rfl)))))
end
section
open Go Go.RowKit Tree Ptr
theorem Ac.setCells{b:Nat}{T:Ti}:∀(vs:List Vl) (o:Nat) (cs:List Vl) (w:Wl),Ac w b cs T->o+vs.length<=cs.length->Ac (w.setCells b o vs) b (cs.take o++(vs++cs.drop (o+vs.length))) T
 |[],o,cs,w,h,_=>h.eq Zh
 |v::r,o,cs,w,h,d=>by
  simp only[Qj]at d;have:=Ac.setCells r (o+1) (cs.set o v) (w.setCell ⟨b,o,nN⟩ v) (h.set o v) (by rw[List.length_set];omega);refine this.eq ?_
  have a:(cs.set o v).take (o+1)=cs.take o++[v]:=by
   rw[List.take_add_one,List.getElem?_set_self Zj,List.take_set_of_le (Q8 _)];rfl
  have c:(cs.set o v).drop (o+1+r.length)=cs.drop (o+(v::r).length):=by
   rw[List.drop_set_of_lt Zj]
   congr 1
   simp only[Qj];omega
  rw[a,c,List.append_assoc];rfl
theorem Chg.setCells{a:Wl}{bs:List Nat}{b:Nat}(c:b<a.heap.size->b∈bs):∀(vs:List Vl) (o:Nat) (w:Wl),Chg a w bs->Chg a (w.setCells b o vs) bs
 |[],_,_,h=>h
 |v::r,o,w,h=>Chg.setCells c r (o+1) (w.setCell ⟨b,o,Option.none⟩ v) (h.setCell _ v c)
theorem AK.blk{w:Wl}{g n c:Nat}{e:Ti}{xs:List Vl}(h:AK w (nS (nM ⟨g,0,nN⟩) n c) e xs):∃b:List Vl,Ac w g b e/\n=xs.length/\n<=c/\c<=maxLen/\b.length=c/\b.take n=xs:=by
 rcases h.2 with⟨d,_⟩|⟨q,p,b,a,_,m,j,k,f,i⟩
 .injection d with d;cases d
 .injection a with a o l
  injection a with a
  injection a with a
  subst a;subst l;subst o;rw[Nat.mul_one]at f i;exact⟨b.toList,by unfold Ac;simpa using m,rfl,j,k,by simpa using f,i⟩
theorem AK.ofBlk{w:Wl}{g n c:Nat}{e:Ti}{a xs:List Vl}(h:Ac w g a e)(i:n=xs.length)(b:n<=c)(f:c<=maxLen)(d:a.length=c)(j:a.take n=xs):AK w (nS (nM ⟨g,0,nN⟩) n c) e xs:=by
 subst i;exact⟨Zh,.inr ⟨g,c,a.toArray,rfl,Nat.zero_le _,h,b,f,by simpa using d,by simpa using j⟩⟩
theorem QR{a:Type}(cs rest:List a)(i:Nat)(v:a)(hi:i<=cs.length):(cs.take i++(v::(cs.drop i++rest))).take (cs.length+1)=cs.insertIdx i v:=by
 have e:cs.take i++(v::(cs.drop i++rest))=cs.insertIdx i v++rest:=by
  rw[AQ cs i hi];simp
 rw[e,List.take_append_of_le_length (by rw[List.length_insertIdx];split<;>omega),Qn (by rw[List.length_insertIdx];split<;>omega)]
theorem AK.shift{w:Wl}{g n c i:Nat}{e:Ti}{cs:List Vl}{v:Vl}(h:AK w (nS (nM ⟨g,0,nN⟩) n c) e cs)(hi:i<=n)(l:n+1<=c):
  AK ((w.setCells g (i+1) (cs.drop i)).setCells g i [v]) (nS (nM ⟨g,0,nN⟩) (n+1) c) e (cs.insertIdx i v):=by
 obtain⟨a,f,rfl,q,j,r,k⟩:=h.blk;have s:(cs.drop i).length=cs.length-i:=Qm;have o:=f.setCells (cs.drop i) (i+1) _ _ Zj;have p:=o.setCells [v] i _ _ (by simp only[Qk,Ql,Qm,Qj,List.length_nil];omega);have m:a.take i=cs.take i:=by rw[<-k,List.take_take,Nat.min_eq_left hi]
 refine AK.ofBlk p (by rw[List.length_insertIdx_of_le_length hi]) l j ?_ ?_
 .simp only[Qk,Ql,Qm,Qj,List.length_nil];omega
 .have b:(a.take (i+1)++(cs.drop i++a.drop (i+1+(cs.drop i).length))).take i=cs.take i:=by
   rw[List.take_append_of_le_length (by rw[Ql];omega),List.take_take,Nat.min_eq_left Zj,m]
  have d:(a.take (i+1)++(cs.drop i++a.drop (i+1+(cs.drop i).length))).drop (i+[v].length)=cs.drop i++a.drop (i+1+(cs.drop i).length):=by
   rw[List.drop_append_of_le_length (by rw[Ql];simp;omega),List.drop_of_length_le (by rw[Ql];simp;omega)];rfl
  rw[b,d];exact QR cs _ i v hi
theorem PQ{w:Wl}{i G:Nat}{e:Ti}{cs a:List Vl}{v:Vl}(hi:i<=cs.length)(m:a.length+i=G)(d:cs.length+1<=G)(f:G<=maxLen):
  AK (((w.alloc (nC (cs.take i++a).toArray e)).setCells w.heap.size i [v]).setCells w.heap.size (i+1) (cs.drop i)) (nS (nM ⟨w.heap.size,0,nN⟩) (cs.length+1) G) e (cs.insertIdx i v):=by
 have k:(cs.drop i).length=cs.length-i:=Qm;have l:(cs.take i).length=i:=by rw[Ql];omega
 have g:=Ac.new w (cs.take i++a) e;have h:=g.setCells [v] i _ _ (by simp only[Qk,Qj,List.length_nil];omega);have j:=h.setCells (cs.drop i) (i+1) _ _ (by simp only[Qk,Ql,Qm,Qj,List.length_nil];omega);refine AK.ofBlk j (by rw[List.length_insertIdx_of_le_length hi]) d f ?_ ?_
 .simp only[Qk,Ql,Qm,Qj,List.length_nil];omega
 .have b:(cs.take i++a).take i=cs.take i:=by rw[List.take_append_of_le_length Zj,List.take_take,Nat.min_self]
  have c:((cs.take i++a).take i++([v]++(cs.take i++a).drop (i+[v].length))).take (i+1)=cs.take i++[v]:=by
   rw[b,<-List.append_assoc,List.take_append_of_le_length (by simp;omega),Qn (by simp;omega)]
  rw[c];have:=QR cs (((cs.take i++a).take i++([v]++(cs.take i++a).drop (i+[v].length))).drop (i+1+(cs.drop i).length)) i v hi;rw[<-this,List.append_assoc];rfl
theorem AK.one{w:Wl}{sv:Vl}{e:Ti}{xs:List Vl}(h:AK w sv e xs):sv= nS nN 0 0/\xs=[]\/∃g c,sv= nS (nM ⟨g,0,nN⟩) xs.length c/\xs.length<=c:=by
 rcases h.2 with⟨b,d⟩|⟨g,a,j,i,_,_,f,_⟩
 .exact .inl ⟨b,List.eq_nil_of_length_eq_zero d⟩
 .exact .inr ⟨g,a,i,f⟩
structure DJ(w:Wl)(old bs:List Nat):Prop where
 nodup:bs.Nodup
 come:∀b,b∈bs->b∈old\/w.heap.size<=b
theorem DJ.refl{w:Wl}{bs:List Nat}(h:bs.Nodup):DJ w bs bs:=⟨h,fun _ a=> .inl a⟩
theorem DJ.perm{w:Wl}{c bs cs:List Nat}(h:DJ w c bs)(a:cs.Perm bs):DJ w c cs:=⟨a.nodup_iff.2 h.nodup,fun b d=>h.come b (a.mem_iff.1 d)⟩
theorem DJ.sub{w:Wl}{c bs cs:List Nat}(h:DJ w c bs)(a:cs.Sublist bs):DJ w c cs:=⟨h.nodup.sublist a,fun b d=>h.come b (a.subset d)⟩
theorem DJ.trans{w d:Wl}{c bs cs:List Nat}(h:DJ w c bs)(k:DJ d bs cs)(e:w.heap.size<=d.heap.size):DJ w c cs:=
 ⟨k.nodup,fun b a=>(k.come b a).elim (h.come b) fun a=> .inr (Q7 e a)⟩
theorem DJ.cons{w:Wl}{c bs:List Nat}{g:Nat}(h:DJ w c bs)(d:w.heap.size<=g)(e:g∉bs):DJ w c (g::bs):=
 ⟨List.nodup_cons.2 ⟨e,h.nodup⟩,fun b a=>by rcases Qh.1 a with rfl|a;exact .inr d;exact h.come b a⟩
theorem DJ.mono{w:Wl}{a cs bs:List Nat}(h:DJ w a bs)(d:∀b,b∈a->b∈cs):DJ w cs bs:=⟨h.nodup,fun b c=>(h.come b c).imp (d b) id⟩
theorem DJ.back{w c:Wl}{a bs:List Nat}(h:DJ c a bs)(e:w.heap.size<=c.heap.size):DJ w a bs:=⟨h.nodup,fun b d=>(h.come b d).imp id fun h=>Q7 e h⟩
theorem DJ.row{w c:Wl}{d rest:List Nat}{sv:Vl}{g:Nat}(h:DJ w d (sv.ownBlock.toList++rest))(a:sv.ownBlock=nM g\/c.heap.size<=g)(i:w.heap.size<=c.heap.size)(e:∀b,b∈rest->b<c.heap.size):DJ w d (g::rest):=by
 rcases a with a|a
 .rw[a]at h;exact h
 .exact(h.sub (List.sublist_append_right _ _)).cons (Q7 i a) fun f=>by have:=e g f;omega
structure Sy(w:Wl)(l:List Tr)(b:Nat)(sv:Vl)(vs:List Vl)(fs:List Nat):Prop where
 blk:Ac w b [sv] 107
 lst:AK w sv 95 vs
 at_:PsAt w l vs fs
structure PS(w:Wl)(ks:List BY)(l:List Tr)(b:Nat)(sv sk:Vl)(vs:List Vl)(fs:List Nat):Prop where
 blk:Ac w b [sv,sk] 177
 lst:AK w sv 95 vs
 keys:AK w sk 9 (Ad ks)
 len:ks.length=l.length
 at_:PsAt w l vs fs
def Jn(b:Nat):Vl:= nF 104 (nP (nM ⟨b,0,nN⟩))
def IR(b:Nat):Vl:= nF 175 (nP (nM ⟨b,0,nN⟩))
theorem AP.list{w:Wl}{l:List Tr}{v:Vl}{bs:List Nat}(h:AP w (.list l) v bs):∃b sv vs a,v=Jn b/\Sy w l b sv vs a/\bs=b::(sv.ownBlock.toList++a):=by
 simp only[AP]at h;obtain⟨b,sv,vs,a,c,d,e,f,g⟩:=h;exact⟨b,sv,vs,a,c,⟨d,e,f⟩,g⟩
theorem Sy.pat{w:Wl}{l:List Tr}{b:Nat}{sv:Vl}{vs:List Vl}{a:List Nat}(h:Sy w l b sv vs a):AP w (.list l) (Jn b) (b::(sv.ownBlock.toList++a)):=by
 simp only[AP];exact⟨b,sv,vs,a,rfl,h.blk,h.lst,h.at_,rfl⟩
theorem AP.obj{w:Wl}{ks:List BY}{l:List Tr}{v:Vl}{bs:List Nat}(h:AP w (.obj ks l) v bs):∃b sv sk vs a,v=IR b/\PS w ks l b sv sk vs a/\bs=b::(sv.ownBlock.toList++(sk.ownBlock.toList++a)):=by
 simp only[AP]at h;obtain⟨b,sv,sk,vs,a,c,d,e,g,i,f,j⟩:=h;exact⟨b,sv,sk,vs,a,c,⟨d,e,g,i,f⟩,j⟩
theorem PS.pat{w:Wl}{ks:List BY}{l:List Tr}{b:Nat}{sv sk:Vl}{vs:List Vl}{a:List Nat}(h:PS w ks l b sv sk vs a):AP w (.obj ks l) (IR b) (b::(sv.ownBlock.toList++(sk.ownBlock.toList++a))):=by
 simp only[AP];exact⟨b,sv,sk,vs,a,rfl,h.blk,h.lst,h.keys,h.len,h.at_,rfl⟩
theorem AP.leaf{w:Wl}{t:Tr}{v:Vl}{bs:List Nat}(h:AP w t v bs)(a:∀l,t≠ .list l)(b:∀ks l,t≠ .obj ks l):v= nF 183 (nA #[AG t])/\bs=[]:=by
 cases t with
 |list l=>exact absurd rfl (a l)
 |obj ks l=>exact absurd rfl (b ks l)
 |_=>simpa only[AP]using h
theorem Sy.insert{w w':Wl}{l:List Tr}{b i n c g:Nat}{sv e:Vl}{vs:List Vl}{d f:List Nat}{x:Tr}(h:Sy w l b sv vs d)(hi:i<=l.length)(q:AP w' x e f)(o:Ac w' b [nS (nM ⟨g,0,nN⟩) n c] 107)(m:AK w' (nS (nM ⟨g,0,nN⟩) n c) 95 (vs.insertIdx i e))(p:Ca d w w'):
  ∃a,Sy w' (l.insertIdx i x) b (nS (nM ⟨g,0,nN⟩) n c) (vs.insertIdx i e) a/\a.Perm (f++d):=by
 obtain⟨a,j,k⟩:=(PsAt.same _ _ _ p h.at_).insert hi q;exact⟨a,⟨o,m,j⟩,k⟩
theorem Sy.erase{w w':Wl}{l:List Tr}{b i n c g:Nat}{sv:Vl}{vs:List Vl}{d:List Nat}{u:Tr}(h:Sy w l b sv vs d)(s:l[i]? =nM u)(q:Ac w' b [nS (nM ⟨g,0,nN⟩) n c] 107)(p:AK w' (nS (nM ⟨g,0,nN⟩) n c) 95 (vs.eraseIdx i))(r:Ca d w w'):
  ∃f a e,vs[i]? =nM f/\AP w' u f a/\Sy w' (l.eraseIdx i) b (nS (nM ⟨g,0,nN⟩) n c) (vs.eraseIdx i) e/\d.Perm (a++e):=by
 obtain⟨v,a,rest,j,k,m,o⟩:=(PsAt.same _ _ _ r h.at_).erase s;exact⟨v,a,rest,j,k,⟨q,p,m⟩,o⟩
theorem PS.insert{w w':Wl}{ks:List BY}{l:List Tr}{b i n c g j d f:Nat}{s:BY}{sv sk k:Vl}{vs:List Vl}{e m:List Nat}{x:Tr}(h:PS w ks l b sv sk vs e)(hi:i<=l.length)(v:AP w' x k m)(t:Ac w' b [nS (nM ⟨g,0,nN⟩) n c,nS (nM ⟨f,0,nN⟩) j d] 177)(r:AK w' (nS (nM ⟨g,0,nN⟩) n c) 95 (vs.insertIdx i k))(q:AK w' (nS (nM ⟨f,0,nN⟩) j d) 9 (Ad (ks.insertIdx i s)))(u:Ca e w w'):
  ∃a,PS w' (ks.insertIdx i s) (l.insertIdx i x) b (nS (nM ⟨g,0,nN⟩) n c) (nS (nM ⟨f,0,nN⟩) j d) (vs.insertIdx i k) a/\a.Perm (m++e):=by
 obtain⟨a,o,p⟩:=(PsAt.same _ _ _ u h.at_).insert hi v;exact⟨a,⟨t,r,q,by rw[List.length_insertIdx_of_le_length hi,List.length_insertIdx_of_le_length (by rw[h.len];exact hi),h.len],o⟩,p⟩
theorem PS.erase{w w':Wl}{ks:List BY}{l:List Tr}{b i n c g j d f:Nat}{sv sk:Vl}{vs:List Vl}{e:List Nat}{u:Tr}(h:PS w ks l b sv sk vs e)(m:l[i]? =nM u)(y:Ac w' b [nS (nM ⟨g,0,nN⟩) n c,nS (nM ⟨f,0,nN⟩) j d] 177)(x:AK w' (nS (nM ⟨g,0,nN⟩) n c) 95 (vs.eraseIdx i))(t:AK w' (nS (nM ⟨f,0,nN⟩) j d) 9 (Ad (ks.eraseIdx i)))(z:Ca e w w'):
  ∃o a k,vs[i]? =nM o/\AP w' u o a/\PS w' (ks.eraseIdx i) (l.eraseIdx i) b (nS (nM ⟨g,0,nN⟩) n c) (nS (nM ⟨f,0,nN⟩) j d) (vs.eraseIdx i) k/\e.Perm (a++k):=by
 obtain⟨v,a,rest,p,q,r,s⟩:=(PsAt.same _ _ _ z h.at_).erase m;have hi:=(Qc.1 m).1;exact⟨v,a,rest,p,q,⟨y,x,t,by rw[List.length_eraseIdx_of_lt hi,List.length_eraseIdx_of_lt (by rw[h.len];exact hi),h.len],r⟩,s⟩
theorem Sy.set{w:Wl}{l:List Tr}{b i:Nat}{sv m:Vl}{vs:List Vl}{f d:List Nat}{x u:Tr}(h:Sy w l b sv vs f)(H:l[i]? =nM u)(G:(d++(b::(sv.ownBlock.toList++f))).Nodup)(I:AP w x m d):
  ∃g c,sv= nS (nM ⟨g,0,nN⟩) vs.length c/\(∃O,w.cell? ⟨g,i,nN⟩=nM O)/\(∀j,w.frozen? ⟨g,j,nN⟩=false)/\
   ∃n r s,f.Perm (n++r)/\s.Perm (d++r)/\Sy (w.setCell ⟨g,i,nN⟩ m) (l.set i x) b sv (vs.set i m) s:=by
 obtain⟨v,n,rest,p,o,Q,t,C,z⟩:=h.at_.set H I
 rcases h.lst.one with⟨_,rfl⟩|⟨g,c,rfl,R⟩
 .simp at o
 .obtain⟨P,B,_,K,L,M,N⟩:=h.lst.blk
  have hi:=(Qc.1 o).1
  have E:g∉b::(d++f):=by
   have:(g::(b::(d++f))).Perm (d++(b::((Vl.slice (nM ⟨g,0,nN⟩) vs.length c).ownBlock.toList++f))):=by
    simp only[Vl.ownBlock,Option.toList_some,Qo,List.nil_append];refine List.Perm.trans ?_ (List.perm_middle (l₁:=d) (a:=b) (l₂:=g::f)).symm;refine List.Perm.trans (List.Perm.swap b g _) ((List.perm_middle (l₁:=d) (a:=g) (l₂:=f)).symm.cons b)
   exact(List.nodup_cons.1 (this.nodup_iff.2 G)).1
  have A:Ca (b::(d++f)) w (w.setCell ⟨g,i,nN⟩ m):=fun k F=>Below.heap_setCell _ _ _ _ (by simp only;intro e;subst e;exact E F)
  have D:∀y,y∈p->y∈b::(d++f):=fun y J=>by
   have:=z.mem_iff.1 J;simp only[Qh,Qf]at this|-
   rcases this with q|q
   .exact .inr (.inl q)
   .exact .inr (.inr (t.mem_iff.2 (Qd _ q)))
  refine⟨g,c,rfl,⟨v,h.lst.cell rfl i v o⟩,fun j=>B.frozen j,n,rest,p,t,z,h.blk.same (A b Zh), ?_,PsAt.same _ _ _ (A.mono D) C⟩;exact AK.ofBlk (B.set i m) Zh K L (by simpa using M) (by rw[List.take_set,N])
theorem PS.set{w:Wl}{ks:List BY}{l:List Tr}{b i:Nat}{sv sk m:Vl}{vs:List Vl}{f d:List Nat}{x u:Tr}(h:PS w ks l b sv sk vs f)(I:l[i]? =nM u)(H:(d++(b::(sv.ownBlock.toList++(sk.ownBlock.toList++f)))).Nodup)(J:AP w x m d):
  ∃g c,sv= nS (nM ⟨g,0,nN⟩) vs.length c/\(∃O,w.cell? ⟨g,i,nN⟩=nM O)/\(∀j,w.frozen? ⟨g,j,nN⟩=false)/\
   ∃n r z,f.Perm (n++r)/\z.Perm (d++r)/\PS (w.setCell ⟨g,i,nN⟩ m) ks (l.set i x) b sv sk (vs.set i m) z:=by
 obtain⟨v,n,rest,t,o,Q,A,D,B⟩:=h.at_.set I J
 rcases h.lst.one with⟨_,rfl⟩|⟨g,c,rfl,R⟩
 .simp at o
 .obtain⟨P,C,_,K,L,M,N⟩:=h.lst.blk
  have hi:=(Qc.1 o).1
  have F:g∉b::(d++(sk.ownBlock.toList++f)):=by
   have:(g::(b::(d++(sk.ownBlock.toList++f)))).Perm (d++(b::((Vl.slice (nM ⟨g,0,nN⟩) vs.length c).ownBlock.toList++(sk.ownBlock.toList++f)))):=by
    simp only[Vl.ownBlock,Option.toList_some,Qo,List.nil_append];refine List.Perm.trans ?_ (List.perm_middle (l₁:=d) (a:=b) (l₂:=g::_)).symm;refine List.Perm.trans (List.Perm.swap b g _) ((List.perm_middle (l₁:=d) (a:=g) (l₂:=_)).symm.cons b)
   exact(List.nodup_cons.1 (this.nodup_iff.2 H)).1
  have p:Ca (b::(d++(sk.ownBlock.toList++f))) w (w.setCell ⟨g,i,nN⟩ m):=fun k G=>Below.heap_setCell _ _ _ _ (by simp only;intro e;subst e;exact F G)
  have E:∀y,y∈t->y∈b::(d++(sk.ownBlock.toList++f)):=fun y s=>by
   have:=B.mem_iff.1 s;simp only[Qh,Qf]at this|-
   rcases this with q|q
   .exact .inr (.inl q)
   .exact .inr (.inr (.inr (A.mem_iff.2 (Qd _ q))))
  refine⟨g,c,rfl,⟨v,h.lst.cell rfl i v o⟩,fun j=>C.frozen j,n,rest,t,A,B,h.blk.same (p b Zh), ?_,h.keys.same (p.mono fun y s=>by simp only[Qh,Qf];exact .inr (.inr (.inl s))),by rw[List.length_set];exact h.len,PsAt.same _ _ _ (p.mono E) D⟩;exact AK.ofBlk (C.set i m) Zh K L (by simpa using M) (by rw[List.take_set,N])
end
end Go.Proofs.YtkfnkppdhcaeoaaGreatDoor

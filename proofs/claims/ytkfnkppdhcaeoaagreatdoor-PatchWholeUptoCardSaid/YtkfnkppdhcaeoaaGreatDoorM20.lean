/- Part 20 of the proof of patchJoined_card. -/
import Derived.Test.YtkfnkppdhcaeoaaGreatDoorM19
set_option maxRecDepth 100000
set_option maxHeartbeats 32000000
set_option linter.unusedSimpArgs false
set_option linter.unusedVariables false
set_option linter.unnecessarySimpa false
namespace Go.Proofs.YtkfnkppdhcaeoaaGreatDoor
open Go renaming Calls->Cl,Value->Vl,World->Wl
section
open _root_.Go.Proofs.Tryz
open Go Go.RowKit Tree Ptr
theorem Jh:(prog.info? 95).map (fun i=>(i.zero,i.size,i.bytes))=some (some .nilIface,1,16):=by kernel_rfl
theorem ab:∀(k:Nat) (t:Tr) (F:Nat->Prop) (v:Vl) (w:Wl),(Ag t).nodes<=k->(Ag t).nodes<=65536->Hm w F t v->(∀b,F b->b<w.heap.size)->Cl prog 76 #[v] w (SF t w):=by
 intro k
 induction k with
 |zero=>intro t _ _ _ h;have:=Cv t;omega
 |succ k ih=>
  intro t F v w hk aV y hF;have aR:=Bj t
  have aa:∀u v w',u∈Ab t->Hm w' F u v->(∀b,F b->b<w'.heap.size)->Cl prog 76 #[v] w' (SF u w'):=by
   intro u v w' C a5 a1;obtain⟨i,hi⟩:=List.mem_iff_getElem?.1 C;have:=CO hi;exact ih u F v w' (by omega) (by omega) a5 a1
  clear ih;cases t
  case null=>
   simp only[Hm]at y;subst y;simp only[AG];have ai:∀(w:Wl),(Instr.typeAssert (.iface 271 (.agg #[])) 144 141 true).run prog w= .ok (.tuple #[.slice none 0 0,.bool false]) w:=fun _=>by kernel_rfl
   have ao:∀(w:Wl),(Instr.typeAssert (.iface 271 (.agg #[])) 144 149 true).run prog w= .ok (.tuple #[.slice none 0 0,.bool false]) w:=fun _=>by kernel_rfl
   have aD:∀(w:Wl),(Instr.typeAssert (.iface 271 (.agg #[])) 144 181 false).run prog w= .ok (.iface 271 (.agg #[])) w:=fun _=>by kernel_rfl
   go_enter func76,ntmps76
   go_wp2
   go_ret
   exact⟨_,[],rfl,⟨rfl,rfl⟩,BP.nil _,by(repeat(first|exact Chg.refl _ _|with_reducible refine c1 ?_ _|with_reducible refine c2 ?_|with_reducible refine c3 ?_ _|with_reducible refine c4 ?_ _ _ (by simp)|with_reducible refine c4 ?_ _ _ (by simp;omega)))⟩
  case flag x=>
   simp only[Hm]at y;subst y;simp only[AG];have ai:∀(w:Wl),(Instr.typeAssert (.iface 272 (.bool x)) 144 141 true).run prog w= .ok (.tuple #[.slice none 0 0,.bool false]) w:=fun _=>by kernel_rfl
   have ao:∀(w:Wl),(Instr.typeAssert (.iface 272 (.bool x)) 144 149 true).run prog w= .ok (.tuple #[.slice none 0 0,.bool false]) w:=fun _=>by kernel_rfl
   have aD:∀(w:Wl),(Instr.typeAssert (.iface 272 (.bool x)) 144 181 false).run prog w= .ok (.iface 272 (.bool x)) w:=fun _=>by kernel_rfl
   go_enter func76,ntmps76
   go_wp2
   go_ret
   exact⟨_,[],rfl,⟨rfl,rfl⟩,BP.nil _,by(repeat(first|exact Chg.refl _ _|with_reducible refine c1 ?_ _|with_reducible refine c2 ?_|with_reducible refine c3 ?_ _|with_reducible refine c4 ?_ _ _ (by simp)|with_reducible refine c4 ?_ _ _ (by simp;omega)))⟩
  case num x=>
   simp only[Hm]at y;subst y;simp only[AG];have ai:∀(w:Wl),(Instr.typeAssert (.iface 273 (.float .f64 x)) 144 141 true).run prog w= .ok (.tuple #[.slice none 0 0,.bool false]) w:=fun _=>by kernel_rfl
   have ao:∀(w:Wl),(Instr.typeAssert (.iface 273 (.float .f64 x)) 144 149 true).run prog w= .ok (.tuple #[.slice none 0 0,.bool false]) w:=fun _=>by kernel_rfl
   have aD:∀(w:Wl),(Instr.typeAssert (.iface 273 (.float .f64 x)) 144 181 false).run prog w= .ok (.iface 273 (.float .f64 x)) w:=fun _=>by kernel_rfl
   go_enter func76,ntmps76
   go_wp2
   go_ret
   exact⟨_,[],rfl,⟨rfl,rfl⟩,BP.nil _,by(repeat(first|exact Chg.refl _ _|with_reducible refine c1 ?_ _|with_reducible refine c2 ?_|with_reducible refine c3 ?_ _|with_reducible refine c4 ?_ _ _ (by simp)|with_reducible refine c4 ?_ _ _ (by simp;omega)))⟩
  case text x=>
   simp only[Hm]at y;subst y;simp only[AG];have ai:∀(w:Wl),(Instr.typeAssert (.iface 179 (.string x)) 144 141 true).run prog w= .ok (.tuple #[.slice none 0 0,.bool false]) w:=fun _=>by kernel_rfl
   have ao:∀(w:Wl),(Instr.typeAssert (.iface 179 (.string x)) 144 149 true).run prog w= .ok (.tuple #[.slice none 0 0,.bool false]) w:=fun _=>by kernel_rfl
   have aD:∀(w:Wl),(Instr.typeAssert (.iface 179 (.string x)) 144 181 false).run prog w= .ok (.iface 179 (.string x)) w:=fun _=>by kernel_rfl
   go_enter func76,ntmps76
   go_wp2
   go_ret
   exact⟨_,[],rfl,⟨rfl,rfl⟩,BP.nil _,by(repeat(first|exact Chg.refl _ _|with_reducible refine c1 ?_ _|with_reducible refine c2 ?_|with_reducible refine c3 ?_ _|with_reducible refine c4 ?_ _ _ (by simp)|with_reducible refine c4 ?_ _ _ (by simp;omega)))⟩
  case list d=>
   simp only[Hm]at y;obtain⟨sl,vv,rfl,X,hi⟩:=y;obtain⟨T,c,rfl,aQ⟩:=X.cell;have ad:=hi.length;rw[ad]at X|-;simp only[Ab]at aR aa;have aU:d.length<=65536:=by omega
   have a0:=hZ ad;have ai:∀(w:Wl),(Instr.typeAssert (.iface 141 (.slice T d.length c)) 144 141 true).run prog w= .ok (.tuple #[.slice T d.length c,.bool true]) w:=fun _=>by kernel_rfl
   have R:=hZ hi;have HK:=hZ aa;have M:=hZ hF;have HC:=hZ aQ;clear hi aa hF aQ X aV hk ad;go_enter func76,ntmps76
   go_wp2_with fail
   obtain⟨B,N⟩:∃B,B=w.heap.size:=⟨_,rfl⟩
   obtain⟨I,D⟩:∃x,x=w.alloc (.cells #[.slice none 0 0] 107):=⟨_,rfl⟩
   have ap:Hid (Ac I B [.slice none 0 0] 107):=by rw[D,N];exact hZ (Ac.new w _ _)
   have av:Hid (Chg w I []):=by rw[D];exact hZ ((Chg.refl w []).alloc _)
   have Z:Hid (BP w [B]):=hZ ⟨by simp,fun b a=>by simp at a;omega⟩;have ba:B<I.heap.size:=by rw[D,N];simp
   have az:Hid (GD w I [B] [] (.slice none 0 0) [] []):=hZ (GD.nil Z.o (fun b a=>by simp at a;omega));rw[<-D,<-N];clear D N;go_loopw [19] (fun aM wr=>∃(i:Nat) (sv:Vl) (vs:List Vl) (A:List Nat),i<=d.length/\aM= .int .i64 i/\Ac wr B [sv] 107/\GD w wr [B] (d.take i) sv vs A/\Chg w wr []) (fun aM _=>d.length-(intOf aM).toNat)
   case atStart=>exact⟨0,_,[],[],by omega,rfl,ap.o,by simpa using az.o,av.o⟩
   case round=>
    obtain⟨i,sv,vs,A,a4,rfl,r,f,m⟩:=hrel;by_cases al:i<d.length
    .obtain⟨u,C⟩:∃u,d[i]? =some u:=⟨_,Q9 al⟩
     obtain⟨vu,O,V⟩:=R.o.get i u C;obtain⟨ti,xi,rfl⟩:=V.iface;obtain⟨vb,vo,rfl,a2,ak⟩:=HC.o i _ O;have a9:=m.keeps ak;have am:=Qi C;have O:=Hm.kept (m.keepsF M.o) (fun _ h=>h) _ _ V;have R:Hid (∀o,Chg wr o []->Cl prog 76 #[.iface ti xi] o (fun e l=>∃H q,e= .returned H/\AP l u H q/\BP wr q/\Chg wr l [])):=hZ fun o n=>(HK.o u _ o am (Hm.kept (n.keepsF (fun b a=>Q6 (M.o b a) m.size)) (fun _ h=>h) _ _ O) (fun b a=>Q6 (M.o b a) (Q7 m.size n.size))).mono fun e l ⟨H,q,e1,E,P,G⟩=>⟨H,q,e1,E,P.of_le n.size,n.trans G⟩
     obtain⟨z,c0,rfl,_⟩:=f.lst.form;have Y:vs.length=i:=by rw[f.at_.length,Ql];omega
     rw[Y]at f r;have aj:=r.cell 0;have aq:Hid (B∉(Vl.slice z i c0).ownBlock.toList):=hZ fun K=>f.new.apart B (by simp) (Qe _ K)
     have S:=hZ f;have ar:=hZ r;have ae:=hZ m;have aA:=hZ C;have U:=hZ Y;have aE:wr.cell? ⟨B,0,none⟩=some (.slice z i c0):=aj;clear f r m C V O am Y aj;go_wp2_with fail
     go_region_law
      (first
       |(go_simp;go_at_call 76;refine(R.o _ (by(repeat(first|exact Chg.refl wr []|with_reducible refine c1 ?_ _|with_reducible refine c2 ?_|with_reducible refine c3 ?_ _|with_reducible refine c4 ?_ _ _ (by simp)|with_reducible refine c4 ?_ _ _ (by simp;omega))))).mono ?_;rintro e l ⟨H,q,rfl,E,P,G⟩;obtain⟨aL,x1,rfl⟩:=E.iface;have aK:=G.keeps aE;have a7:=World.block_lt_of_cell? l _ aK;have K2:=hZ E;have K3:=hZ P;have J:=hZ G;clear E P G)
       |(go_loud(refine Df rfl _ _ _ rfl 95 .nilIface 16 underlying105 Jh rfl (.slice z i c0) vs (by rfl) (by exact(S.o.lst.kept J.o).kept (bs:=[]) (by(repeat(first|exact Chg.refl l []|with_reducible refine c1 ?_ _|with_reducible refine c2 ?_|with_reducible refine c3 ?_ _|with_reducible refine c4 ?_ _ _ (by simp)|with_reducible refine c4 ?_ _ _ (by simp;omega)))) (by simp)) l.heap.size (.iface aL x1) (by rfl) (by exact Bx rfl _ _) rfl (by rw[U.o];omega) (by rw[U.o];omega) ?_;rw[U.o];intro g aB w7 ah af ag;have ay:=hZ ah;have Q:Hid (Chg l w7 (Vl.slice z i c0).ownBlock.toList):=hZ ((((Chg.refl l []).alloc _).none _).trans af);have aw:Hid ((Vl.slice z i c0).ownBlock=some g\/l.heap.size<=g):=hZ (ag.imp id (fun h=>by rw[World.size_alloc]at h;omega));have L:=hZ ((ar.o.kept J.o).kept Q.o aq.o);have a6:=L.o.cell 0;have a3:∀j,w7.frozen? ⟨B,j,none⟩=false:=(fun j=>L.o.frozen j);have a8:=L.o.lt;clear ah af ag)))
     all_goals
      go_wp2_with fail
      go_roundw
      case rel=>
       have W:=S.o.push K2.o K3.o J.o ay.o Q.o aw.o ae.o.size;rw[<-Cb aA.o]at W;have aF:B∉(Vl.slice (some ⟨g,0,none⟩) (i+1) aB).ownBlock.toList++(A++q):=W.new.apart B (by simp);refine⟨i+1,_,_,_,by omega,by go_num,L.o.set 0 _,W.kept (cs:=[B]) ((Chg.refl _ _).setCell _ _ (by simp)) (fun b a=>by simp at a;subst a;exact aF), ?_⟩;refine Chg.setCell ((ae.o.trans J.o).step Q.o fun j hj hl=> ?_) _ _ (fun hl=> ?_)
       .have:=S.o.new.ge j (Qd _ (Qe _ hj));omega
       .exact absurd hl (by have:=Z.o.ge B (by simp);simp;omega)
      case measure=>simp[intOf];omega
    .have aG:i=d.length:=by omega
     rw[aG,Qn (Q8 _)]at f;go_wp2
     go_ret
     exact⟨_,B::(sv.ownBlock.toList++A),rfl,by simp only[AP];exact⟨B,sv,vs,A,rfl,r,f.lst,f.at_,rfl⟩,by simpa using f.new,m⟩
  case obj kk d=>
   simp only[Hm]at y;obtain⟨T,c,vv,rfl,aJ,X,hi⟩:=y;have ad:=hi.length;simp only[Ab]at aR aa;have aU:d.length<=65536:=by omega
   have a0:=hZ ad;have ai:∀(w:Wl),(Instr.typeAssert (.iface 149 (.slice T d.length c)) 144 141 true).run prog w= .ok (.tuple #[.slice none 0 0,.bool false]) w:=fun _=>by kernel_rfl
   have ao:∀(w:Wl),(Instr.typeAssert (.iface 149 (.slice T d.length c)) 144 149 true).run prog w= .ok (.tuple #[.slice T d.length c,.bool true]) w:=fun _=>by kernel_rfl
   have R:=hZ hi;have HK:=hZ aa;have M:=hZ hF;have HC:=hZ X;clear hi aa hF aV hk ad;have aX:Hid (∀o,Chg w o []->Cl prog 127 #[.slice T d.length c] o (KP kk o)):=hZ fun o n=>Rq F kk d vv T c o aJ (Dc.kept (n.keepsF M.o) (fun _ h=>h) _ _ R.o) (X.kept (n.keepsF M.o) (fun _ h=>h)) aU
   clear X;go_enter func76,ntmps76
   go_wp2_with(first
    |(go_at_call 127;refine(aX.o _ (by(repeat(first|exact Chg.refl w []|with_reducible refine c1 ?_ _|with_reducible refine c2 ?_|with_reducible refine c3 ?_ _|with_reducible refine c4 ?_ _ _ (by simp)|with_reducible refine c4 ?_ _ _ (by simp;omega))))).mono ?_;rintro e w0 ⟨sk,rfl,aH,aS,aT⟩;obtain⟨ka,kc,rfl,_⟩:=aH.form;have an:=hZ aH;have ax:=hZ aS;have aO:=hZ (Chg.trans (b:=_) (by(repeat(first|exact Chg.refl w []|with_reducible refine c1 ?_ _|with_reducible refine c2 ?_|with_reducible refine c3 ?_ _|with_reducible refine c4 ?_ _ _ (by simp)|with_reducible refine c4 ?_ _ _ (by simp;omega)))) aT);clear aH aS aT))
   obtain⟨p,aC⟩:∃p,p=Vl.slice ka (Ad kk).length kc:=⟨_,rfl⟩
   obtain⟨B,N⟩:∃B,B=w0.heap.size:=⟨_,rfl⟩
   obtain⟨I,D⟩:∃x,x=w0.alloc (.cells #[.slice none 0 0,p] 177):=⟨_,rfl⟩
   have ap:Hid (Ac I B [.slice none 0 0,p] 177):=by rw[D,N];exact hZ (Ac.new w0 _ _)
   have au:Hid (Chg w0 I []):=by rw[D];exact hZ ((Chg.refl w0 []).alloc _)
   have av:Hid (Chg w I []):=hZ (aO.o.trans au.o);rw[<-aC]at an ax;have aW:Hid (AK I p 9 (Ad kk)):=hZ (an.o.kept au.o)
   have Z:Hid (BP w (B::p.ownBlock.toList)):=by
    have hz:=aO.o.size;have al:=an.o.ltB;refine hZ ⟨List.nodup_cons.2 ⟨fun K=> ?_,ax.o.nodup⟩,fun b a=> ?_⟩
    .have:=al B K;omega
    .rcases Qh.1 a with rfl|a
     .omega
     .exact ax.o.ge b a
   have aZ:Hid (∀b,b∈B::p.ownBlock.toList->b<I.heap.size):=by
    refine hZ fun b a=> ?_
    have hz:=au.o.size
    rcases Qh.1 a with rfl|a
    .rw[D,N];simp
    .have:=an.o.ltB b a;omega
   have az:Hid (GD w I (B::p.ownBlock.toList) [] (.slice none 0 0) [] []):=hZ (GD.nil Z.o aZ.o);rw[<-aC,<-D,<-N];have aP:=hZ aJ;clear D N aC aJ;go_loopw [46] (fun aN wr=>∃(i:Nat) (sv:Vl) (vs:List Vl) (A:List Nat),i<=d.length/\aN= .int .i64 i/\Ac wr B [sv,p] 177/\AK wr p 9 (Ad kk)/\GD w wr (B::p.ownBlock.toList) (d.take i) sv vs A/\Chg w wr []) (fun aN _=>d.length-(intOf aN).toNat)
   case atStart=>exact⟨0,_,[],[],by omega,rfl,ap.o,aW.o,by simpa using az.o,av.o⟩
   case round=>
    obtain⟨i,sv,vs,A,a4,rfl,r,aI,f,m⟩:=hrel;by_cases al:i<d.length
    .obtain⟨u,C⟩:∃u,d[i]? =some u:=⟨_,Q9 al⟩
     obtain⟨s,hs⟩:∃s,kk[i]? =some s:=⟨_,Q9 (by have:=aP.o;omega)⟩
     obtain⟨vu,O,V⟩:=R.o.get i u C;obtain⟨ti,xi,rfl⟩:=V.iface;obtain⟨g1,g2⟩:=Mi hs O
     rcases HC.o with h0|⟨vb,vo,rfl,a2,ak⟩
     .rw[h0]at g1;simp at g1
     have e0:vo+i*2=vo+2*i:=by omega
     have c0:wr.cell? ⟨vb,vo+i*2,none⟩=some (.string s):=by rw[e0];exact m.keeps (ak _ _ g1)
     have c1:wr.cell? ⟨vb,vo+i*2+1,none⟩=some (.iface ti xi):=by rw[e0];exact m.keeps (ak _ _ g2)
     have am:=Qi C;have O:=Hm.kept (m.keepsF M.o) (fun _ h=>h) _ _ V;have R:Hid (∀o,Chg wr o []->Cl prog 76 #[.iface ti xi] o (fun e l=>∃H q,e= .returned H/\AP l u H q/\BP wr q/\Chg wr l [])):=hZ fun o n=>(HK.o u _ o am (Hm.kept (n.keepsF (fun b a=>Q6 (M.o b a) m.size)) (fun _ h=>h) _ _ O) (fun b a=>Q6 (M.o b a) (Q7 m.size n.size))).mono fun e l ⟨H,q,e1,E,P,G⟩=>⟨H,q,e1,E,P.of_le n.size,n.trans G⟩
     obtain⟨z,q0,rfl,_⟩:=f.lst.form;have Y:vs.length=i:=by rw[f.at_.length,Ql];omega
     rw[Y]at f r;have aj:=r.cell 0;have aq:Hid (B∉(Vl.slice z i q0).ownBlock.toList):=hZ fun K=>f.new.apart B (List.mem_cons_self ..) (Qe _ K)
     have S:=hZ f;have ar:=hZ r;have ae:=hZ m;have aY:=hZ aI;have bb:=r.lt;have aA:=hZ C;have U:=hZ Y;have aE:wr.cell? ⟨B,0,none⟩=some (.slice z i q0):=aj;clear f r aI m C hs V O am Y aj g1 g2 ak e0;go_wp2_with fail
     go_region_law
      (first
       |(go_simp;go_at_call 76;refine(R.o _ (by(repeat(first|exact Chg.refl wr []|with_reducible refine c1 ?_ _|with_reducible refine c2 ?_|with_reducible refine c3 ?_ _|with_reducible refine c4 ?_ _ _ (by simp)|with_reducible refine c4 ?_ _ _ (by simp;omega))))).mono ?_;rintro e l ⟨H,q,rfl,E,P,G⟩;obtain⟨aL,x1,rfl⟩:=E.iface;have aK:=G.keeps aE;have a7:=World.block_lt_of_cell? l _ aK;have K2:=hZ E;have K3:=hZ P;have J:=hZ G;clear E P G)
       |(go_loud(refine Df rfl _ _ _ rfl 95 .nilIface 16 underlying105 Jh rfl (.slice z i q0) vs (by rfl) (by exact(S.o.lst.kept J.o).kept (bs:=[]) (by(repeat(first|exact Chg.refl l []|with_reducible refine c1 ?_ _|with_reducible refine c2 ?_|with_reducible refine c3 ?_ _|with_reducible refine c4 ?_ _ _ (by simp)|with_reducible refine c4 ?_ _ _ (by simp;omega)))) (by simp)) l.heap.size (.iface aL x1) (by rfl) (by exact Bx rfl _ _) rfl (by rw[U.o];omega) (by rw[U.o];omega) ?_;rw[U.o];intro g aB w7 ah af ag;have ay:=hZ ah;have Q:Hid (Chg l w7 (Vl.slice z i q0).ownBlock.toList):=hZ ((((Chg.refl l []).alloc _).none _).trans af);have aw:Hid ((Vl.slice z i q0).ownBlock=some g\/l.heap.size<=g):=hZ (ag.imp id (fun h=>by rw[World.size_alloc]at h;omega));have L:=hZ ((ar.o.kept J.o).kept Q.o aq.o);have a6:=L.o.cell 0;have a3:∀j,w7.frozen? ⟨B,j,none⟩=false:=(fun j=>L.o.frozen j);have a8:=L.o.lt;clear ah af ag)))
     all_goals
      go_wp2_with fail
      go_roundw
      case rel=>
       have W:=S.o.push K2.o K3.o J.o ay.o Q.o aw.o ae.o.size;rw[<-Cb aA.o]at W;have aF:B∉(Vl.slice (some ⟨g,0,none⟩) (i+1) aB).ownBlock.toList++(A++q):=W.new.apart B (List.mem_cons_self ..);refine⟨i+1,_,_,_,by omega,by go_num,L.o.set 0 _, ?_,W.kept (cs:=[B]) ((Chg.refl _ _).setCell _ _ (by simp)) (fun b a=>by simp at a;subst a;exact aF), ?_⟩
       .refine((aY.o.kept J.o).kept Q.o (fun x n K=>S.o.new.apart x (Qg _ (by simpa using n)) (Qe _ K))).kept (bs:=[B]) ((Chg.refl _ _).setCell _ _ (by simp)) (fun x n K=> ?_)
        simp at K;subst K;exact(List.nodup_cons.1 Z.o.nodup).1 (by simpa using n)
       refine Chg.setCell ((ae.o.trans J.o).step Q.o fun j hj hl=> ?_) _ _ (fun hl=> ?_)
       .have:=S.o.new.ge j (Qd _ (Qe _ hj));omega
       .exact absurd hl (by have:=Z.o.ge B (by simp);simp;omega)
      case measure=>simp[intOf];omega
    .have aG:i=d.length:=by omega
     rw[aG,Qn (Q8 _)]at f;go_wp2
     go_ret
     exact⟨_,B::(sv.ownBlock.toList++(p.ownBlock.toList++A)),rfl,by simp only[AP];exact⟨B,sv,p,vs,A,rfl,r,f.lst,aI,aP.o,f.at_,rfl⟩,f.new.perm ((Ew _ _ _).cons B),m⟩
theorem FK(v:Vl)(w:Wl):(callMethod (.iface 183 (.agg #[v])) GK #[]).run prog w= .ok (.enter 320 #[.agg #[v]]) w:=by kernel_rfl
theorem QA(b:Nat)(w:Wl):(callMethod (.iface 104 (.pointer (some ⟨b,0,none⟩))) GK #[]).run prog w= .ok (.enter 302 #[.pointer (some ⟨b,0,none⟩)]) w:=by kernel_rfl
theorem No(b:Nat)(w:Wl):(callMethod (.iface 175 (.pointer (some ⟨b,0,none⟩))) GK #[]).run prog w= .ok (.enter 315 #[.pointer (some ⟨b,0,none⟩)]) w:=by kernel_rfl
def NQ(v:Vl)(t:Tr)(w:Wl):Prop:=∃f args,(callMethod v GK #[]).run prog w= .ok (.enter f args) w/\Cl prog f args w (SF t w)
theorem EG(t:Tr)(a:Vl)(c:∃b x,a= .iface b x)(w:Wl)(h:∀w',AP w' t (.iface 183 (.agg #[a])) []):Cl prog 320 #[.agg #[a]] w (SF t w):=by
 obtain⟨b,x,rfl⟩:=c;go_enter func320,ntmps320
 go_wp2
 go_ret
 exact⟨_,[],rfl,h _,BP.nil _,by exact cg cR⟩
def Yh(l:List Tr)(w:Wl)(e:Ending)(w':Wl):Prop:=∃sv vs a,e= .returned sv/\GD w w' [] l sv vs a/\Chg w w' []
theorem Y8(l:List Tr)(vs:List Vl)(fs:List Nat)(b:Nat)(a:Option Addr)(c:Nat)(w:Wl)(B:w.cell? ⟨b,0,none⟩=some (.slice a vs.length c))(N:AK w (.slice a vs.length c) 95 vs)(A:PsAt w l vs fs)(hl:l.length<=65536)(J:∀u v y w',u∈l->AP w' u v y->NQ v u w'):
  Cl prog 305 #[.pointer (some ⟨b,0,none⟩)] w (Yh l w):=by
 have T:=A.length;have lb:=World.block_lt_of_cell? w _ B;have I:=hZ N;have HP:=hZ A;have Y:=hZ J;have s:=hZ T;have ai:vs.length<=65536:=by omega
 clear N A J T;go_enter func305,ntmps305
 go_wp2
 go_loopw [3,11] (fun v3 F wr=>∃(k:Nat) (sv:Vl) (us:List Vl) (z:List Nat),k<=vs.length/\F= .int .i64 k/\sv=v3/\GD w wr [] (l.take k) sv us z/\Chg w wr [])
  (fun _ F _=>vs.length-(intOf F).toNat)
 case atStart=>exact⟨0,_,[],[],by omega,rfl,rfl,by simpa using GD.nil (BP.nil w) (fun b B=>by cases B),by exact cg cR⟩
 case round=>
  obtain⟨k,sv,us,z,hk,rfl,rfl,d,i⟩:=hrel;by_cases ae:k<vs.length
  .obtain⟨u,o⟩:∃u,l[k]? =some u:=⟨_,Q9 (by have:=s.o;omega)⟩
   obtain⟨v,y,S,C,_⟩:=HP.o.get o
   obtain⟨g,rfl⟩:∃g,a=some ⟨g,0,none⟩:=by
    obtain⟨a',c',e,h⟩:=I.o.form
    injection e with e1
    subst e1;exact h (by intro e;subst e;simp at ae)
   obtain⟨ti,x,rfl⟩:=C.iface;have ah:wr.cell? ⟨g,k,none⟩=some (.iface ti x):=i.keeps (I.o.cell rfl k _ S);obtain⟨f,args,Q,P⟩:=Y.o u _ y wr (Qi o) (C.chg i (by simp));obtain⟨m,n,rfl,_⟩:=d.lst.form;have D:us.length=k:=by rw[d.at_.length,Ql];have:=s.o;omega
   rw[D]at d|-;have q:=hZ d;have H:=hZ i;have ab:=hZ o;have r:=hZ D;have aa:=hZ Q;have W:=hZ P;clear Q P d i o S C D
   go_wp2_with(first
    |(refine Am rfl _ _ _ rfl _ rfl f args aa.o _ W.o ?_;rintro e p ⟨v1,bv,rfl,E,U,V⟩;refine⟨_,rfl, ?_⟩;obtain⟨af,x1,rfl⟩:=E.iface;have K2:=hZ E;have K3:=hZ U;have t:=hZ V;clear E U V)
    |(refine AM rfl _ _ _ rfl 95 .nilIface 16 underlying105 Jh rfl (.slice m k n) us (by rfl) (by exact(q.o.lst.kept t.o).kept (bs:=[]) (by exact cg cR) (by simp)) p.heap.size (.iface af x1) (by rfl) (by exact Bx rfl _ _) rfl (by rw[r.o];omega) (by rw[r.o];omega) ?_;rw[r.o];intro K ag w7 O L M;have Z:=hZ O;have G:Hid (Chg p w7 (Vl.slice m k n).ownBlock.toList):=hZ ((((Chg.refl p []).alloc _).none _).trans L);have X:Hid ((Vl.slice m k n).ownBlock=some K\/p.heap.size<=K):=hZ (M.imp id (fun h=>by rw[World.size_alloc]at h;omega));clear O L M))
   go_roundw
   case rel=>
    have R:=q.o.push K2.o K3.o t.o Z.o G.o X.o H.o.size;rw[<-Cb ab.o]at R;refine⟨k+1,_,_,_,by omega,by go_num,rfl,R,(H.o.trans t.o).step G.o fun j hj hl=> ?_⟩;have:=q.o.new.ge j (by simpa using Or.inl hj);omega
   case measure=>simp[intOf];omega
  .have ad:l.take k=l:=Qn (by have:=s.o;omega)
   rw[ad]at d;obtain⟨m,n,rfl,_⟩:=d.lst.form;go_wp2
   go_ret
   exact⟨_,us,z,rfl,d,i⟩
theorem NI(l:List Tr)(vs:List Vl)(m:List Nat)(b:Nat)(a:Option Addr)(c:Nat)(w:Wl)(s:w.cell? ⟨b,0,none⟩=some (.slice a vs.length c))(q:AK w (.slice a vs.length c) 95 vs)(r:PsAt w l vs m)(A:l.length<=65536)(k:∀u v z w',u∈l->AP w' u v z->NQ v u w'):
  Cl prog 302 #[.pointer (some ⟨b,0,none⟩)] w (SF (.list l) w):=by
 have y:=hZ (Y8 l vs m b a c w s q r A k);clear s q r k;go_enter func302,ntmps302
 go_wp2_with(first
  |(go_at_call 305;refine y.o.mono ?_;rintro e f ⟨sv,us,n,rfl,d,o⟩;obtain⟨g,h,rfl,_⟩:=d.lst.form;have t:=hZ d;have j:=hZ o;clear d o))
 go_ret
 have d:=t.o;have p:=d.kept (cs:=[]) ((Chg.refl f []).alloc (.cells #[.slice g us.length h] 107)) (by simp);refine⟨_,f.heap.size::((Vl.slice g us.length h).ownBlock.toList++n),rfl, ?_,⟨List.nodup_cons.2 ⟨fun B=> ?_,by simpa using d.new.nodup⟩,fun x i=> ?_⟩,by exact cg j.o⟩
 .simp only[AP]
  exact⟨f.heap.size,_,us,n,rfl,Ac.new f [.slice g us.length h] _,p.lst,p.at_,rfl⟩
 .have:=d.ltAll _ (by simpa using B);omega
 .rcases Qh.1 i with rfl|i
  .exact j.o.size
  .exact d.new.ge x (by simpa using i)
theorem cA{w:Wl}{sk:Vl}(h:∀g,sk.ownBlock=some g->w.heap.size<=g):BP w sk.ownBlock.toList:=by
 refine⟨?_,fun b a=>h b (by simpa using a)⟩;cases sk.ownBlock<;>simp
theorem LB(ks:List BY)(l:List Tr)(vs:List Vl)(V:List Nat)(b:Nat)(a:Option Addr)(c:Nat)(B:Option Addr)(C:Nat)(w:Wl)(M:Ac w b [.slice a vs.length c,.slice B ks.length C] 177)(X:AK w (.slice a vs.length c) 95 vs)(W:AK w (.slice B ks.length C) 9 (Ad ks))(Y:PsAt w l vs V)(hl:l.length<=65536)(aa:ks.length=l.length)(U:∀u v bu w',u∈l->AP w' u v bu->NQ v u w'):
  Cl prog 315 #[.pointer (some ⟨b,0,none⟩)] w (SF (.obj ks l) w):=by
 have Z:w.cell? ⟨b,0,none⟩=some (.slice a vs.length c):=M.cell 0;have A:w.cell? ⟨b,1,none⟩=some (.slice B ks.length C):=M.cell 1
 have Q:Hid (∀s r,Chg w r []->Chg r s []->Cl prog 305 #[.pointer (some ⟨b,0,none⟩)] s fun e k=>∃m n us q,e= .returned (.slice m us.length n)/\AK k (.slice m us.length n) 95 us/\PsAt k l us q/\BP r ((Vl.slice m us.length n).ownBlock.toList++q)/\(∀x,x∈(Vl.slice m us.length n).ownBlock.toList++q->x<k.heap.size)/\Chg r k []):=hZ fun s r E j=>
  (Y8 l vs V b a c s ((E.trans j).keeps Z) (X.kept (E.trans j)) (Y.chg (E.trans j) (by simp)) hl U).mono fun e k ⟨sv,us,q,h0,d,f⟩=>by
   obtain⟨m,n,rfl,_⟩:=d.lst.form;exact⟨m,n,us,q,h0,d.lst,d.at_,(by simpa using d.new:BP s _).of_le j.size,fun x j=>d.ltAll x (by simpa using j),j.trans f⟩
 have R:Hid (∀s r,Chg w r []->Chg r s []->Cl prog 42 #[.slice B ks.length C] s fun e k=>∃o p,e= .returned (.slice o (Ad ks).length p)/\AK k (.slice o (Ad ks).length p) 9 (Ad ks)/\BP r (Vl.slice o (Ad ks).length p).ownBlock.toList/\Chg r k []):=hZ fun s r E j=>by
  have hk:=W.kept (E.trans j);refine(DL (fun g=>(Vl.slice B ks.length C).ownBlock=some g) _ _ s hk.toRow (Gu ks) (by rw[Ao];omega)).mono ?_;rintro e k ⟨sk,rfl,d,f,i⟩;obtain⟨o,p,rfl,_⟩:=d.form;exact⟨o,p,rfl,d,(cA f).of_le j.size,j.trans i⟩
 have ab:=hZ aa;clear M X W Y U Z aa;go_enter func315,ntmps315
 go_wp2_with fail
 go_region_held3(fun w'=>w'.cell? ⟨b,1,none⟩=some (.slice B ks.length C)) (first|exact A|exact O|exact N|exact(fun h:Chg y _ []=>h.keeps O) (by exact cg cR)|exact(fun h:Chg I _ []=>h.keeps N) (by exact cg cR)|exact(fun h:Chg w _ []=>h.keeps A) (by exact cg cR))
  (first
   |(go_at_call 305;refine(Q.o _ I G.o (by exact cg cR)).mono ?_;rintro e k ⟨m,n,us,q,rfl,d,f,i,H,z⟩;have D:Hid (Chg w k []):=hZ (G.o.trans z);have J:Hid (AK k (.slice o (Ad ks).length p) 9 (Ad ks)):=hZ (S.o.kept z);have T:Hid (BP w ((Vl.slice o (Ad ks).length p).ownBlock.toList++((Vl.slice m us.length n).ownBlock.toList++q))):=hZ (af.o.append S.o.ltB i G.o.size);have K:=hZ d;have L:=hZ f;obtain⟨y,rfl⟩:∃x,x=k:=⟨_,rfl⟩;have O:=D.o.keeps A;clear d f i H z)
   |(go_at_call 305;refine(Q.o _ w cR (by exact cg cR)).mono ?_;rintro e k ⟨m,n,us,q,rfl,d,f,i,H,z⟩;have F:=hZ z;have ae:=hZ i;have ad:=hZ d;have ag:=hZ f;have ah:=hZ H;obtain⟨I,rfl⟩:∃x,x=k:=⟨_,rfl⟩;have N:=F.o.keeps A;clear d f i H z)
   |(go_at_call 42;refine(R.o _ I F.o (by exact cg cR)).mono ?_;rintro e w2 ⟨o,p,rfl,d,f,i⟩;have D:Hid (Chg w w2 []):=hZ (F.o.trans i);have J:=hZ d;have T:Hid (BP w ((Vl.slice o (Ad ks).length p).ownBlock.toList++((Vl.slice m us.length n).ownBlock.toList++q))):=hZ ((ae.o.append ah.o f F.o.size).perm List.perm_append_comm);have K:=hZ (ad.o.kept i);have L:=hZ (ag.o.chg i (by simp));obtain⟨y,rfl⟩:∃x,x=w2:=⟨_,rfl⟩;have O:=D.o.keeps A;clear d f i)
   |(go_at_call 42;refine(R.o _ w cR (by exact cg cR)).mono ?_;rintro e w2 ⟨o,p,rfl,d,f,i⟩;have G:=hZ i;have af:=hZ f;have S:=hZ d;obtain⟨I,rfl⟩:∃x,x=w2:=⟨_,rfl⟩;have N:=G.o.keeps A;clear d f i))
 all_goals
  go_wp2_with fail
  go_ret
  have P:Chg y (y.alloc (.cells #[.slice m us.length n,.slice o (Ad ks).length p] 177)) []:=(Chg.refl y []).alloc _;refine⟨_,y.heap.size::((Vl.slice m us.length n).ownBlock.toList++((Vl.slice o (Ad ks).length p).ownBlock.toList++q)),rfl, ?_, ?_,by exact cg D.o⟩
  .simp only[AP]
   exact⟨y.heap.size,_,_,us,q,rfl,Ac.new y [.slice m us.length n,.slice o (Ad ks).length p] _,K.o.kept P,J.o.kept P,ab.o,L.o.chg P (by simp),rfl⟩
  .have hn:=T.o.perm (Ew (Vl.slice m us.length n).ownBlock.toList (Vl.slice o (Ad ks).length p).ownBlock.toList q)
   refine⟨List.nodup_cons.2 ⟨fun t=> ?_,hn.nodup⟩,fun x j=> ?_⟩
   .simp only[Qf]at t
    rcases t with t|t|t
    .have:=K.o.ltB _ t;omega
    .have:=J.o.ltB _ t;omega
    .have:=PsAt.lt _ _ _ L.o _ t;omega
   .rcases Qh.1 j with rfl|j
    .exact D.o.size
    .exact hn.ge x j
theorem Xq:∀(k:Nat) (t:Tr) (v:Vl) (bs:List Nat) (w:Wl),(Ag t).nodes<=k->(Ag t).nodes<=65536->AP w t v bs->NQ v t w:=by
 intro k
 induction k with
 |zero=>intro t _ _ _ h;have:=Cv t;omega
 |succ k y=>
  intro t v bs w C D d
  have g:∀u v j w',u∈Ab t->AP w' u v j->NQ v u w':=by
   intro u v j w' s r;obtain⟨i,hi⟩:=List.mem_iff_getElem?.1 s;have:=CO hi;exact y u v j w' (by omega) (by omega) r
  have p:=Bj t
  cases t with
  |null=>
   simp only[AP]at d;obtain⟨rfl,rfl⟩:=d;exact⟨_,_,FK _ w,EG .null _ ⟨_,_,rfl⟩ w (fun _=>by simp[AP,AG])⟩
  |flag x=>
   simp only[AP]at d;obtain⟨rfl,rfl⟩:=d;exact⟨_,_,FK _ w,EG (.flag x) _ ⟨_,_,rfl⟩ w (fun _=>by simp[AP,AG])⟩
  |num x=>
   simp only[AP]at d;obtain⟨rfl,rfl⟩:=d;exact⟨_,_,FK _ w,EG (.num x) _ ⟨_,_,rfl⟩ w (fun _=>by simp[AP,AG])⟩
  |text x=>
   simp only[AP]at d;obtain⟨rfl,rfl⟩:=d;exact⟨_,_,FK _ w,EG (.text x) _ ⟨_,_,rfl⟩ w (fun _=>by simp[AP,AG])⟩
  |list l=>
   simp only[AP]at d;obtain⟨b,B,vs,m,rfl,f,e,n,rfl⟩:=d;obtain⟨a,c,rfl,_⟩:=e.form;simp only[Ab]at p g;exact⟨_,_,QA b w,NI l vs m b a c w (f.cell 0) e n (by omega) g⟩
  |obj ks l=>
   simp only[AP]at d;obtain⟨b,B,sk,vs,m,rfl,f,e,o,q,n,rfl⟩:=d;obtain⟨a,c,rfl,_⟩:=e.form;obtain⟨z,A,rfl,_⟩:=o.form;rw[Ao]at f o;simp only[Ab]at p g;exact⟨_,_,No b w,LB ks l vs m b a c z A w f e o n (by omega) q g⟩
theorem MC(ks:List BY)(l:List Tr)(vs:List Vl)(O:List Nat)(b:Nat)(a:Option Addr)(c:Nat)(k:Option Addr)(m:Nat)(w:Wl)(hB:Ac w b [.slice a vs.length c,.slice k ks.length m] 177)(hL:AK w (.slice a vs.length c) 95 vs)(hK:AK w (.slice k ks.length m) 9 (Ad ks))(hP:PsAt w l vs O)(hl:l.length<=65536)(aJ:ks.length=l.length)(G:Nat->Prop)(sv:Vl)(n:Nat)(L:List Ap)(xs:List Vl)(F:Nj (b::((Vl.slice a vs.length c).ownBlock.toList++((Vl.slice k ks.length m).ownBlock.toList++O))) G sv n L xs w)(hn:n+(Ag (.obj ks l)).nodes<=4294967296)(W:∀x,x∈b::((Vl.slice a vs.length c).ownBlock.toList++((Vl.slice k ks.length m).ownBlock.toList++O))->x<w.heap.size)(IH:∀u v bu w',u∈l->AP w' u v bu->(∀x,x∈bu->x<w'.heap.size)->LQ v u bu w'):
  Cl prog 317 #[.pointer (some ⟨b,0,none⟩),sv] w (CJ G sv n (Ag (.obj ks l)).nodes (L++MW (.obj ks l)) w):=by
 have aL:=hP.length;have aD:(Ag (.obj ks l)).nodes=(Bk l).nodes+1:=by simp only[Ag,Sz.over];omega
 rw[aD]at hn|-;obtain⟨K,P⟩:∃K,K=b::((Vl.slice a vs.length c).ownBlock.toList++((Vl.slice k ks.length m).ownBlock.toList++O)):=⟨_,rfl⟩
 rw[<-P]at F W;have ay:w.cell? ⟨b,0,none⟩=some (.slice a vs.length c):=hB.cell 0;have T:w.cell? ⟨b,1,none⟩=some (.slice k ks.length m):=hB.cell 1;have lb:=hB.lt;have an:b∈K:=by rw[P];simp
 have aA:b∉sv.ownBlock.toList:=fun d=>(F.own b (by simpa using d)).1 an
 have aE:∀x,w.heap.size<=x->x∉sv.ownBlock.toList:=fun x y d=>by have:=F.lst.lt (by simpa using d);omega
 have aC:∀g,(Vl.slice k ks.length m).ownBlock=some g->g∉sv.ownBlock.toList:=fun g i d=>(F.own g (by simpa using d)).1 (by rw[P];simp[i])
 have HW:Hid (∀q,Chg w q []->Cl prog 306 #[.pointer (some ⟨b,0,none⟩),sv] q fun e D=>∃C,e= .returned C/\I9 K G sv (n+(Bk l).nodes) (L++KH l) w C D/\Chg q D sv.ownBlock.toList/\(∀g,C.ownBlock=some g->sv.ownBlock=some g\/q.heap.size<=g)):=hZ fun q y=>
  (I4 l vs O K b a c q (y.keeps ay) (hL.kept y) (hP.chg y (by simp)) (fun x ah=>by rw[P];simp only[Qh,Qf]at ah|-;rcases ah with h|h|h;exact .inl h;exact .inr (.inl h);exact .inr (.inr (.inr h))) (fun x ah=>Q6 (W x ah) y.size) hl G sv n L xs (F.kept y) (by omega) IH).mono fun e D h=>by
   obtain⟨C,he,d⟩:=I9.of F W y h;obtain⟨v2,_,_,aB,_,_,hc,ho,_⟩:=h;have:C=v2:=by rw[he]at aB;injection aB
   subst this;exact⟨C,he,d,hc,ho⟩
 have ap:Hid (∀q,Chg w q sv.ownBlock.toList->Cl prog 42 #[.slice k ks.length m] q (Dm q 9 (Ad ks))):=hZ fun q y=>by
  have B:=hK.kept y aC;exact DL (fun g=>(Vl.slice k ks.length m).ownBlock=some g) _ _ q B.toRow (Gu ks) (by rw[Ao];omega)
 have aj:=hZ aA;have al:=hZ aE;have ao:=hZ an;have aG:=hZ W;have I:Hid ((n+(Bk l).nodes+1)*72<=140737488355328/\n+(Bk l).nodes<=140737488355328):=hZ ⟨by omega,by omega⟩;clear hB hL hP F W IH aD an aA aE P hn aL hK aC ay aJ;obtain⟨M,hM⟩:∃M,M=(Bk l).nodes:=⟨_,rfl⟩
 rw[<-hM]at HW I|-;obtain⟨N,hN⟩:∃N,N=n+M:=⟨_,rfl⟩
 rw[<-hN]at HW I;have aH:=hZ hN;clear hN hM;go_enter func317,ntmps317
 go_wp2_with fail
 go_region_held3(fun w'=>w'.cell? ⟨b,1,none⟩=some (.slice k ks.length m)) (first|exact T|exact E|exact am|exact az|exact(fun h:Chg r _ []=>h.keeps E) (by exact cg cR)|exact(fun h:Chg w2 _ []=>h.keeps am) (by exact cg cR))
  (first
   |(go_at_call 306;refine(HW.o _ (by exact cg ak.o)).mono ?_;rintro e D ⟨C,rfl,d,V,ag⟩;obtain⟨s,c1,rfl⟩:=d.slots;have av:Hid (∀g,(Vl.slice s N c1).ownBlock=some g->(Vl.slice z (Ad ks).length A).ownBlock≠some g):=hZ (fun g i B=>by rcases ag g i with h|h;exact al.o g (ab.o g B) (by simp[h]);have h1:=Q7 (Chg.size (a:=w2) (bs:=[]) (by exact cg cR)) h;have h2:=ar.o.lt B;omega);have L:Hid (AK D (.slice z (Ad ks).length A) 9 (Ad ks)):=hZ ((ar.o.kept (bs:=[]) (by exact cg cR) (by simp)).kept V (fun g i=>al.o g (ab.o g i)));obtain⟨r,rfl⟩:∃x,x=D:=⟨_,rfl⟩;have E:=(d.chg.cell (p:=⟨b,1,none⟩) lb aj.o).trans T;have M:=hZ d;have aF:=hZ V;clear d V ag)
   |(go_at_call 306;refine(HW.o _ (by exact cg cR)).mono ?_;rintro e D ⟨C,rfl,d,V,ag⟩;obtain⟨s,c1,rfl⟩:=d.slots;have am:=(d.chg.cell (p:=⟨b,1,none⟩) lb aj.o).trans T;have ad:=hZ d;clear d V ag)
   |(go_at_call 42;refine(ap.o _ (by exact cg ad.o.chg)).mono ?_;rintro e w2 ⟨sk,rfl,H,J,U⟩;obtain⟨z,A,rfl,_⟩:=H.form;obtain⟨r,rfl⟩:∃x,x=w2:=⟨_,rfl⟩;have M:=hZ (ad.o.kept U);have L:=hZ H;have E:=(M.o.chg.cell (p:=⟨b,1,none⟩) lb aj.o).trans T;have ab:Hid (∀g,(Vl.slice z (Ad ks).length A).ownBlock=some g->w.heap.size<=g):=hZ (fun g i=>Q7 ad.o.chg.size (J g i));have av:Hid (∀g,(Vl.slice s N c1).ownBlock=some g->(Vl.slice z (Ad ks).length A).ownBlock≠some g):=hZ (fun g i B=>by obtain⟨G1,ai,h1,_⟩:=ad.o.ex;have h2:=h1.lst.lt i;have h3:D.heap.size<=g:=J g B;omega);clear H J U)
   |(go_at_call 42;refine(ap.o _ (by exact cg ((Chg.refl w []).none _))).mono ?_;rintro e w2 ⟨sk,rfl,H,J,U⟩;obtain⟨z,A,rfl,_⟩:=H.form;have ak:Hid (Chg w w2 []):=hZ ((Chg.refl w []).drew.trans U);have ar:=hZ H;have am:=ak.o.keeps T;have ab:Hid (∀g,(Vl.slice z (Ad ks).length A).ownBlock=some g->w.heap.size<=g):=hZ J;clear H J U)
   |(obtain⟨G1,ai,t,X,Y⟩:=M.o.ex;(refine Bw rfl _ _ _ rfl 72 Iq 6 72 (by decide) underlying22 DM rfl (.slice s N c1) N ai (by rfl) (by exact t.lst.kept (bs:=[]) (by exact cg cR) (by simp)) r.heap.size (AI ⟨6,false,0,Dz,0,ks⟩ (.slice z (Ad ks).length A)) (by rfl) (by rfl) (by exact Ff _ _ _) (C0 _ _ _ _) I.o.1 I.o.2 ?_);intro g aI Z S Q R;have au:=hZ S;have aa:Hid (Chg r Z (Vl.slice s N c1).ownBlock.toList):=hZ ((((Chg.refl r []).alloc _).none _).trans Q);have aq:Hid ((Vl.slice s N c1).ownBlock=some g\/r.heap.size<=g):=hZ (R.imp id (fun h=>by rw[World.size_alloc]at h;omega));have ae:=hZ t;have aw:=hZ X;have ax:=hZ Y;have az:Z.cell? ⟨b,1,none⟩=some (.slice k ks.length m):=(aa.o.cell (World.block_lt_of_cell? r _ E) (fun d=>(t.own b (by simpa using d)).1 ao.o)).trans E;clear S Q R t X Y)
   |(obtain⟨G1,ai,t,X,Y⟩:=M.o.ex;(refine Bw rfl _ _ _ rfl 72 Iq 6 72 (by decide) underlying22 DM rfl (.slice s N c1) N ai (by rfl) (by exact t.lst.kept (bs:=[]) (by exact cg cR) (by simp)) w2.heap.size (AI ⟨6,false,0,Dz,0,ks⟩ (.slice z (Ad ks).length A)) (by rfl) (by rfl) (by intro j v hv;exact(aF.o.cell (p:=⟨w2.heap.size,j,none⟩) (by simp) (al.o _ ak.o.size)).trans (Ff _ _ _ j v hv)) (C0 _ _ _ _) I.o.1 I.o.2 ?_);intro g aI Z S Q R;have au:=hZ S;have aa:Hid (Chg r Z (Vl.slice s N c1).ownBlock.toList):=hZ (Q);have aq:Hid ((Vl.slice s N c1).ownBlock=some g\/r.heap.size<=g):=hZ (R.imp id (fun h=>Nat.le_of_eq h.symm));have ae:=hZ t;have aw:=hZ X;have ax:=hZ Y;have az:Z.cell? ⟨b,1,none⟩=some (.slice k ks.length m):=(aa.o.cell (World.block_lt_of_cell? r _ E) (fun d=>(t.own b (by simpa using d)).1 ao.o)).trans E;clear S Q R t X Y))
 all_goals
  go_wp2_with fail
  go_ret
  have e:=aH.o;subst e;rw[YT,<-List.append_assoc];have hs:(Aa (.obj ks l)).toI=⟨6,false,0,Dz,0,ks⟩:=rfl;rw[hs];refine I9.put (G2:=fun b=>G1 b\/(Vl.slice z (Ad ks).length A).ownBlock=some b) M.o aG.o ae.o aw.o ax.o au.o aa.o aq.o ?_ ?_ (fun _ h=> .inl h) (fun b h hl=>h.resolve_right fun B=> ?_) (fun b h=> ?_) (fun g i h=> ?_)
  .have:=L.o.rowC
   rw[Ao]at this|-;exact this
  .intro b o n c e
   injection e with e1
   subst e1
   right
   obtain⟨a',c',e2,h⟩:=L.o.form
   injection e2 with e2
   by_cases aK:Ad ks=[]
   .have f:=L.o.2
    rcases f with⟨f,_⟩|⟨g',aM,aN,f,_⟩
    .injection f with f;cases f
    .injection f with f;injection f with f;injection f with f h1;subst f;rfl
   .obtain⟨g',af⟩:=h aK
    rw[<-e2]at af
    injection af with af
    injection af with f h1
    subst f;rfl
  .have:=ab.o b B;omega
  .rcases h with h|h
   .exact ae.o.ltG b h
   .exact L.o.lt h
  .rcases h with h|h
   .exact(ae.o.own g i).2 h
   .exact av.o g i h
theorem YJ:∀(k:Nat) (t:Tr) (v:Vl) (bs:List Nat) (w:Wl),(Ag t).nodes<=k->Av t->(Ag t).within=true->AP w t v bs->(∀x,x∈bs->x<w.heap.size)->LQ v t bs w:=by
 intro k
 induction k with
 |zero=>intro t _ _ _ h;have:=Cv t;omega
 |succ k F=>
  intro t v bs w K D A d s G sv n L xs e f
  have o:∀u v g w',u∈Ab t->AP w' u v g->(∀x,x∈g->x<w'.heap.size)->LQ v u g w':=by
   intro u v g w' y E C;obtain⟨i,hi⟩:=List.mem_iff_getElem?.1 y;have:=CO hi;exact F u v g w' (by omega) (D.items u y) (C8 A y) E C
  have M:=Ar A;have z:=Bj t
  cases t with
  |null=>
   simp only[AP]at d;obtain⟨rfl,rfl⟩:=d;exact⟨_,_,GZ _ sv w,JW G sv n L xs w e (by simpa[Ag]using f)⟩
  |flag x=>
   simp only[AP]at d;obtain⟨rfl,rfl⟩:=d;exact⟨_,_,GZ _ sv w,JV x G sv n L xs w e (by simpa[Ag]using f)⟩
  |num x=>
   simp only[AP]at d;obtain⟨rfl,rfl⟩:=d;exact⟨_,_,GZ _ sv w,Ky x G sv n L xs w e (by simpa[Ag]using f)⟩
  |text x=>
   simp only[AP]at d;obtain⟨rfl,rfl⟩:=d;exact⟨_,_,GZ _ sv w,JX x G sv n L xs w e (by simpa[Ag]using f)⟩
  |list l=>
   simp only[AP]at d;obtain⟨b,J,vs,p,rfl,m,j,q,rfl⟩:=d;obtain⟨a,c,rfl,_⟩:=j.form;simp only[Ab]at z o;exact⟨_,_,TW b sv w,Pm l vs p b a c w m j q (by omega) G sv n L xs e f s o⟩
  |obj ks l=>
   simp only[AP]at d;obtain⟨b,J,sk,vs,p,rfl,m,j,r,B,q,rfl⟩:=d;obtain⟨a,c,rfl,_⟩:=j.form;obtain⟨H,I,rfl,_⟩:=r.form;rw[Ao]at m r e s;simp only[Ab]at z o;exact⟨_,_,PH b sv w,MC ks l vs p b a c H I w m j r q (by omega) B G sv n L xs e f s o⟩
structure LN(t:Tr)(w:Wl)(sv:Vl)(w':Wl):Prop where
 chg:Chg w w' []
 ex:∃G xs,Ba w' sv 72 6 (Ag t).nodes xs/\Cr w' G (MW t) xs/\(∀b,G b->w.heap.size<=b/\b<w'.heap.size)/\(∀g,sv.ownBlock=some g->w.heap.size<=g/\¬G g)
theorem Le{t:Tr}{v:Vl}{bs:List Nat}{w:Wl}(a:Av t)(i:(Ag t).within=true)(d:AP w t v bs):
  ∃f args,(callMethod v EB #[.slice none 0 0]).run prog w= .ok (.enter f args) w/\Cl prog f args w fun e w'=>∃sv,e= .returned sv/\LN t w sv w':=by
 have s:=Ar i;obtain⟨f,args,k,l⟩:=YJ _ t v bs w (Q8 _) a i d (AP.lt t v bs d) (fun _=>False) (.slice none 0 0) 0 [] [] ⟨Ba.nil _ _ _,rfl,fun g a=>(by cases a),fun b c=>c.elim⟩ (by omega);refine⟨f,args,k,l.mono ?_⟩;rintro e w' ⟨sv,G,xs,rfl,j,m,n,o,u,p,q,r⟩;rw[Nat.zero_add]at j;refine⟨sv,rfl,n,G,xs,j,by simpa using m,fun b c=>⟨?_,q b c⟩,fun g a=>⟨?_,r g a⟩⟩
 .by_cases h:b<w.heap.size
  .exact(p b c h).elim
  .omega
 .rcases o g a with h|h
  .cases h
  .exact h
end
end Go.Proofs.YtkfnkppdhcaeoaaGreatDoor

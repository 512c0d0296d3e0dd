/- Part 12 of the proof of both cards. -/
import Derived.Shelf.Spec.SlicesInsertGrow
import Derived.Test.YtpdnhfkacgdocaaGreatDoorM11
set_option maxRecDepth 100000
set_option maxHeartbeats 32000000
set_option linter.all false
namespace Go.Proofs.YtpdnhfkacgdocaaGreatDoor
open Go renaming Calls->Cl,TypeId->Ti,Value->Vl,World->Wl
open Go.Value renaming agg->nA,iface->nF,int->nI,pointer->nP,slice->nS,string->nG,tuple->nT
open Go.IntKind renaming i64->nX
open Go.Ending renaming returned->nR
open Go.Obj renaming cells->nC
open Option renaming none->nN,some->nM
section
open _root_.Go.Proofs.Tryz
open Go Go.RowKit Tree Ptr
variable{p:Prop}
def KP(ks:List BY)(w:Wl)(e:Ending)(w':Wl):Prop:=∃sk,e= nR sk/\AK w' sk 9 (Ad ks)/\BP w sk.ownBlock.toList/\Chg w w' []
theorem M0{ks:List BY}{i:Nat}{s:BY}(h:ks[i]? =nM s):Ad (ks.take i)++[nG s]=Ad (ks.take (i+1)):=by
 rw[List.take_add_one,h];simp[Ad]
theorem y8(h:p:=by exact cg cR):p:=h
theorem Rq(F:Nat->Prop)(ks:List BY)(l:List Tr)(vs:List Vl)(N:Option Addr)(c:Nat)(w:Wl)(J:ks.length=l.length)(H:Dc w F l vs)(K:LP w F N (Kp ks vs))(hn:l.length<=65536):
  Cl prog 70 #[nS N l.length c] w (KP ks w):=by
 have S:=hZ K;have p:=hZ J;have U:=hZ H;clear K J H;go_enter func70,ntmps70;go_wp2;go_loopw [3,8] (fun Z z wr=>∃(i:Nat) (n:Vl),i<=l.length/\z= nI nX i/\n=Z/\AK wr n 9 (Ad (ks.take i))/\BP w n.ownBlock.toList/\Chg w wr []) (fun _ z _=>l.length-(intOf z).toNat)
 case atStart=>exact⟨0,_,Zj,rfl,rfl,AK.nil _ _,BP.nil _,by exact cg cR⟩
 case round=>
  obtain⟨i,n,hi,rfl,rfl,a,m,d⟩:=hrel;by_cases X:i<l.length
  .obtain⟨s,y⟩:∃s,ks[i]? =nM s:=⟨_,Q9 (by have:=p.o;omega)⟩;obtain⟨v,L,M⟩:=U.o.get i _ (Q9 X);obtain⟨Y,x,rfl⟩:=M.iface;obtain⟨k,C⟩:=Mi y L;rcases S.o with V|⟨b,o,rfl,aa,t⟩
   .rw[V]at k;simp at k
   have r:o+i*2=o+2*i:=Zj;have c0:wr.cell? ⟨b,o+i*2,nN⟩=nM (nG s):=by rw[r];exact d.keeps (t _ _ k)
   have c1:wr.cell? ⟨b,o+i*2+1,nN⟩=nM (nF Y x):=by rw[r];exact d.keeps (t _ _ C)
   obtain⟨e,f,rfl,_⟩:=a.form;have u:(Ad (ks.take i)).length=i:=by rw[Ao,Ql];have:=p.o;omega
   rw[u]at a m|-;have O:=hZ a;have A:=hZ m;have B:=hZ d;have T:=hZ y;have q:=hZ u;clear a m d y L M k C t u r
   go_wp2_with(first
    |(refine AM rfl _ _ _ rfl 9 (nG ⟨#[]⟩) 16 underlying27 Cf rfl (nS e i f) (Ad (ks.take i)) ZN (by exact O.o.kept (bs:=[]) y8 Zh) (wr.heap.size+1) (nG s) ZN (by exact Bx Zh _ _) rfl (by rw[q.o];omega) (by rw[q.o];omega) ?_;rw[q.o];intro g cap w7 G D E;have R:=hZ G;have P:=UD (Chg wr w7 (Vl.slice e i f).ownBlock.toList) (ct ((Chg.refl wr []).none _) D);have Q:=UD ((Vl.slice e i f).ownBlock=nM g\/wr.heap.size<=g) (E.imp id (fun h=>by simp at h;omega));clear G D E))
   go_roundw
   case rel=>
    refine⟨i+1,_,Zj,by go_num,rfl,by rw[<-M0 T.o];exact R.o,⟨by simp[Vl.ownBlock],fun b I=> ?_⟩,B.o.step P.o fun j W hl=> ?_⟩
    .simp[Vl.ownBlock]at I;subst I;rcases Q.o with h|h
     .exact A.o.ge _ (by simp[h])
     .have:=B.o.size;omega
    .have:=A.o.ge j W;omega
   case measure=>simp[intOf];omega
  .have ab:i=l.length:=by omega
   rw[Qn (by have:=p.o;omega)]at a;obtain⟨e,f,rfl,_⟩:=a.form;go_wp2;go_ret;exact⟨_,rfl,a,m,d⟩
theorem Jh:(prog.info? 67).map (fun i=>(i.zero,i.size,i.bytes))=nM (nM .nilIface,1,16):=Yb
theorem xd(h:p:=by go_enter func36,ntmps36;go_wp2;go_ret;exact⟨_,[],rfl,⟨rfl,rfl⟩,BP.nil _,by exact ot⟩):p:=h
theorem xg(h:p:=by
 refine Chg.setCell ((ae.o.trans J.o).step Q.o fun j hj hl=> ?_) _ _ (fun hl=> ?_)
 .have:=S.o.new.ge j (Qd _ (Qe _ hj));omega
 .exact absurd hl (by have:=Z.o.ge B Zh;simp;omega)):p:=h
theorem xn(h:p:=by exact(S.o.lst.kept J.o).kept (bs:=[]) (by exact ot) Zh):p:=h
theorem xp(h:p:=by exact Bx rfl _ _):p:=h
theorem xt(h:p:=by rw[U.o];omega):p:=h
theorem ab:∀(k:Nat) (t:Tr) (F:Nat->Prop) (v:Vl) (w:Wl),(Ag t).nodes<=k->(Ag t).nodes<=65536->Hm w F t v->(∀b,F b->b<w.heap.size)->Cl prog 36 #[v] w (SF t w):=by
 intro k;induction k with
 |zero=>intro t _ _ _ h;have:=Cv t;omega
 |succ k ih=>
  intro t F v w hk aU r hF;have aQ:=Bj t
  have aa:∀u v w',u∈Ab t->Hm w' F u v->(∀b,F b->b<w'.heap.size)->Cl prog 36 #[v] w' (SF u w'):=by
   intro u v w' C a4 a0;obtain⟨i,hi⟩:=List.mem_iff_getElem?.1 C;have:=CO hi;exact ih u F v w' Zj Zj a4 a0
  clear ih;cases t
  case null=>
   simp only[Hm]at r;subst r;simp only[AG];have ai:∀(w:Wl),(Instr.typeAssert (nF 201 (nA #[])) 100 154 true).run prog w= .ok (nT #[nS nN 0 0,.bool false]) w:=fun _=>Yb;have ao:∀(w:Wl),(Instr.typeAssert (nF 201 (nA #[])) 100 160 true).run prog w= .ok (nT #[nS nN 0 0,.bool false]) w:=fun _=>Yb;have aC:∀(w:Wl),(Instr.typeAssert (nF 201 (nA #[])) 100 167 false).run prog w= .ok (nF 201 (nA #[])) w:=fun _=>Yb;exact xd
  case flag x=>
   simp only[Hm]at r;subst r;simp only[AG];have ai:∀(w:Wl),(Instr.typeAssert (nF 202 (.bool x)) 100 154 true).run prog w= .ok (nT #[nS nN 0 0,.bool false]) w:=fun _=>Yb;have ao:∀(w:Wl),(Instr.typeAssert (nF 202 (.bool x)) 100 160 true).run prog w= .ok (nT #[nS nN 0 0,.bool false]) w:=fun _=>Yb;have aC:∀(w:Wl),(Instr.typeAssert (nF 202 (.bool x)) 100 167 false).run prog w= .ok (nF 202 (.bool x)) w:=fun _=>Yb;exact xd
  case num x=>
   simp only[Hm]at r;subst r;simp only[AG];have ai:∀(w:Wl),(Instr.typeAssert (nF 203 (.float .f64 x)) 100 154 true).run prog w= .ok (nT #[nS nN 0 0,.bool false]) w:=fun _=>Yb;have ao:∀(w:Wl),(Instr.typeAssert (nF 203 (.float .f64 x)) 100 160 true).run prog w= .ok (nT #[nS nN 0 0,.bool false]) w:=fun _=>Yb;have aC:∀(w:Wl),(Instr.typeAssert (nF 203 (.float .f64 x)) 100 167 false).run prog w= .ok (nF 203 (.float .f64 x)) w:=fun _=>Yb;exact xd
  case text x=>
   simp only[Hm]at r;subst r;simp only[AG];have ai:∀(w:Wl),(Instr.typeAssert (nF 204 (nG x)) 100 154 true).run prog w= .ok (nT #[nS nN 0 0,.bool false]) w:=fun _=>Yb;have ao:∀(w:Wl),(Instr.typeAssert (nF 204 (nG x)) 100 160 true).run prog w= .ok (nT #[nS nN 0 0,.bool false]) w:=fun _=>Yb;have aC:∀(w:Wl),(Instr.typeAssert (nF 204 (nG x)) 100 167 false).run prog w= .ok (nF 204 (nG x)) w:=fun _=>Yb;exact xd
  case list d=>
   simp only[Hm]at r;obtain⟨sl,vv,rfl,X,hi⟩:=r;obtain⟨T,c,rfl,aP⟩:=X.cell;have ad:=hi.length;rw[ad]at X|-;simp only[Ab]at aQ aa;have aT:d.length<=65536:=Zj;have aZ:=hZ ad;have ai:∀(w:Wl),(Instr.typeAssert (nF 154 (nS T d.length c)) 100 154 true).run prog w= .ok (nT #[nS T d.length c,.bool true]) w:=fun _=>Yb;have R:=hZ hi;have HK:=hZ aa;have M:=hZ hF;have HC:=hZ aP;clear hi aa hF aP X aU hk ad;go_enter func36,ntmps36;go_wp2_with fail;obtain⟨B,N⟩:=Ue w.heap.size;obtain⟨I,D⟩:=Ue (w.alloc (nC #[nS nN 0 0] 158));have ap:Hid (Ac I B [nS nN 0 0] 158):=by rw[D,N];exact hZ (Ac.new w _ _)
   have av:Hid (Chg w I []):=by rw[D];exact hZ ((Chg.refl w []).alloc _)
   have Z:=UD (BP w [B]) ⟨Zh,fun b a=>by simp at a;omega⟩;have a9:B<I.heap.size:=by rw[D,N];simp
   have az:=UD (GD w I [B] [] (nS nN 0 0) [] []) (GD.nil Z.o (fun b a=>by simp at a;omega));rw[<-D,<-N];clear D N;go_loopw [19] (fun aL wr=>∃(i:Nat) (sv:Vl) (vs:List Vl) (A:List Nat),i<=d.length/\aL= nI nX i/\Ac wr B [sv] 158/\GD w wr [B] (d.take i) sv vs A/\Chg w wr []) (fun aL _=>d.length-(intOf aL).toNat)
   case atStart=>exact⟨0,_,[],[],Zj,rfl,ap.o,by simpa using az.o,av.o⟩
   case round=>
    obtain⟨i,sv,vs,A,a3,rfl,q,f,m⟩:=hrel;by_cases al:i<d.length
    .obtain⟨u,C⟩:∃u,d[i]? =nM u:=⟨_,Q9 al⟩;obtain⟨vu,O,V⟩:=R.o.get i u C;obtain⟨ti,xi,rfl⟩:=V.iface;obtain⟨vb,vo,rfl,a1,ak⟩:=HC.o i _ O;have a8:=m.keeps ak;have am:=Qi C;have O:=Hm.kept (m.keepsF M.o) (fun _ h=>h) _ _ V;have R:=UD (∀o,Chg wr o []->Cl prog 36 #[nF ti xi] o (fun e l=>∃H p,e= nR H/\AP l u H p/\BP wr p/\Chg wr l [])) fun o n=>(HK.o u _ o am (Hm.kept (n.keepsF (fun b a=>Q6 (M.o b a) m.size)) (fun _ h=>h) _ _ O) (fun b a=>Q6 (M.o b a) (Q7 m.size n.size))).mono fun e l ⟨H,p,e1,E,P,G⟩=>⟨H,p,e1,E,P.of_le n.size,n.trans G⟩;obtain⟨z,c0,rfl,_⟩:=f.lst.form;have Y:vs.length=i:=by rw[f.at_.length,Ql];omega
     rw[Y]at f q;have aj:=q.cell 0;have aq:=UD (B∉(Vl.slice z i c0).ownBlock.toList) fun K=>f.new.apart B Zh (Qe _ K);have S:=hZ f;have ar:=hZ q;have ae:=hZ m;have aA:=hZ C;have U:=hZ Y;have aD:wr.cell? ⟨B,0,nN⟩=nM (nS z i c0):=aj;clear f q m C V O am Y aj;go_wp2_with fail
     go_region_law
      (first
       |(go_simp;go_at_call 36;refine(R.o _ (by exact ot)).mono ?_;rintro e l ⟨H,p,rfl,E,P,G⟩;obtain⟨aK,x1,rfl⟩:=E.iface;have aJ:=G.keeps aD;have a6:=World.block_lt_of_cell? l _ aJ;have K2:=hZ E;have K3:=hZ P;have J:=hZ G;clear E P G)
       |(go_loud(refine Df rfl _ _ _ rfl 67 .nilIface 16 underlying156 Jh rfl (nS z i c0) vs ZN xn l.heap.size (nF aK x1) ZN xp rfl xt xt ?_;rw[U.o];intro g cap w7 ah af ag;have ay:=hZ ah;have Q:=UD (Chg l w7 (Vl.slice z i c0).ownBlock.toList) ((((Chg.refl l []).alloc _).none _).trans af);have aw:=UD ((Vl.slice z i c0).ownBlock=nM g\/l.heap.size<=g) (ag.imp id (fun h=>by rw[World.size_alloc]at h;omega));have L:=hZ ((ar.o.kept J.o).kept Q.o aq.o);have a5:=L.o.cell 0;have a2:∀j,w7.frozen? ⟨B,j,nN⟩=false:=(fun j=>L.o.frozen j);have a7:=L.o.lt;clear ah af ag)))
     all_goals
      go_wp2_with fail;go_roundw
      case rel=>
       have W:=S.o.push K2.o K3.o J.o ay.o Q.o aw.o ae.o.size;rw[<-Cb aA.o]at W;have aE:B∉(Vl.slice (nM ⟨g,0,nN⟩) (i+1) cap).ownBlock.toList++(A++p):=W.new.apart B Zh;refine⟨i+1,_,_,_,Zj,by go_num,L.o.set 0 _,W.kept (cs:=[B]) ((Chg.refl _ _).setCell _ _ Zh) (fun b a=>by simp at a;subst a;exact aE), ?_⟩;exact xg
      case measure=>simp[intOf];omega
    .have aF:i=d.length:=by omega
     rw[aF,Qn (Q8 _)]at f;go_wp2;go_ret;exact⟨_,B::(sv.ownBlock.toList++A),rfl,by simp only[AP];exact⟨B,sv,vs,A,rfl,q,f.lst,f.at_,rfl⟩,by simpa using f.new,m⟩
  case obj kk d=>
   simp only[Hm]at r;obtain⟨T,c,vv,rfl,aI,X,hi⟩:=r;have ad:=hi.length;simp only[Ab]at aQ aa;have aT:d.length<=65536:=Zj;have aZ:=hZ ad;have ai:∀(w:Wl),(Instr.typeAssert (nF 160 (nS T d.length c)) 100 154 true).run prog w= .ok (nT #[nS nN 0 0,.bool false]) w:=fun _=>Yb;have ao:∀(w:Wl),(Instr.typeAssert (nF 160 (nS T d.length c)) 100 160 true).run prog w= .ok (nT #[nS T d.length c,.bool true]) w:=fun _=>Yb;have R:=hZ hi;have HK:=hZ aa;have M:=hZ hF;have HC:=hZ X;clear hi aa hF aU hk ad;have aW:=UD (∀o,Chg w o []->Cl prog 70 #[nS T d.length c] o (KP kk o)) fun o n=>Rq F kk d vv T c o aI (Dc.kept (n.keepsF M.o) (fun _ h=>h) _ _ R.o) (X.kept (n.keepsF M.o) (fun _ h=>h)) aT;clear X;go_enter func36,ntmps36
   go_wp2_with(first
    |(go_at_call 70;refine(aW.o _ (by exact ot)).mono ?_;rintro e w0 ⟨sk,rfl,aG,aR,aS⟩;obtain⟨ka,kc,rfl,_⟩:=aG.form;have an:=hZ aG;have ax:=hZ aR;have aN:=hZ (Chg.trans (b:=_) (by exact ot) aS);clear aG aR aS))
   obtain⟨y,aB⟩:=Ue (Vl.slice ka (Ad kk).length kc);obtain⟨B,N⟩:=Ue w0.heap.size;obtain⟨I,D⟩:=Ue (w0.alloc (nC #[nS nN 0 0,y] 163));have ap:Hid (Ac I B [nS nN 0 0,y] 163):=by rw[D,N];exact hZ (Ac.new w0 _ _)
   have au:Hid (Chg w0 I []):=by rw[D];exact hZ ((Chg.refl w0 []).alloc _)
   have av:=UD (Chg w I []) (aN.o.trans au.o);rw[<-aB]at an ax;have aV:=UD (AK I y 9 (Ad kk)) (an.o.kept au.o)
   have Z:Hid (BP w (B::y.ownBlock.toList)):=by
    have hz:=aN.o.size;have al:=an.o.ltB;refine hZ ⟨List.nodup_cons.2 ⟨fun K=> ?_,ax.o.nodup⟩,fun b a=> ?_⟩
    .have:=al B K;omega
    .rcases Qh.1 a with rfl|a
     .omega
     .exact ax.o.ge b a
   have aY:Hid (∀b,b∈B::y.ownBlock.toList->b<I.heap.size):=by
    refine hZ fun b a=> ?_;have hz:=au.o.size;rcases Qh.1 a with rfl|a
    .rw[D,N];simp
    .have:=an.o.ltB b a;omega
   have az:=UD (GD w I (B::y.ownBlock.toList) [] (nS nN 0 0) [] []) (GD.nil Z.o aY.o);rw[<-aB,<-D,<-N];have aO:=hZ aI;clear D N aB aI;go_loopw [46] (fun aM wr=>∃(i:Nat) (sv:Vl) (vs:List Vl) (A:List Nat),i<=d.length/\aM= nI nX i/\Ac wr B [sv,y] 163/\AK wr y 9 (Ad kk)/\GD w wr (B::y.ownBlock.toList) (d.take i) sv vs A/\Chg w wr []) (fun aM _=>d.length-(intOf aM).toNat)
   case atStart=>exact⟨0,_,[],[],Zj,rfl,ap.o,aV.o,by simpa using az.o,av.o⟩
   case round=>
    obtain⟨i,sv,vs,A,a3,rfl,q,aH,f,m⟩:=hrel;by_cases al:i<d.length
    .obtain⟨u,C⟩:∃u,d[i]? =nM u:=⟨_,Q9 al⟩;obtain⟨s,hs⟩:∃s,kk[i]? =nM s:=⟨_,Q9 (by have:=aO.o;omega)⟩;obtain⟨vu,O,V⟩:=R.o.get i u C;obtain⟨ti,xi,rfl⟩:=V.iface;obtain⟨g1,g2⟩:=Mi hs O;rcases HC.o with h0|⟨vb,vo,rfl,a1,ak⟩
     .rw[h0]at g1;simp at g1
     have e0:vo+i*2=vo+2*i:=Zj;have c0:wr.cell? ⟨vb,vo+i*2,nN⟩=nM (nG s):=by rw[e0];exact m.keeps (ak _ _ g1)
     have c1:wr.cell? ⟨vb,vo+i*2+1,nN⟩=nM (nF ti xi):=by rw[e0];exact m.keeps (ak _ _ g2)
     have am:=Qi C;have O:=Hm.kept (m.keepsF M.o) (fun _ h=>h) _ _ V;have R:=UD (∀o,Chg wr o []->Cl prog 36 #[nF ti xi] o (fun e l=>∃H p,e= nR H/\AP l u H p/\BP wr p/\Chg wr l [])) fun o n=>(HK.o u _ o am (Hm.kept (n.keepsF (fun b a=>Q6 (M.o b a) m.size)) (fun _ h=>h) _ _ O) (fun b a=>Q6 (M.o b a) (Q7 m.size n.size))).mono fun e l ⟨H,p,e1,E,P,G⟩=>⟨H,p,e1,E,P.of_le n.size,n.trans G⟩;obtain⟨z,q0,rfl,_⟩:=f.lst.form;have Y:vs.length=i:=by rw[f.at_.length,Ql];omega
     rw[Y]at f q;have aj:=q.cell 0;have aq:=UD (B∉(Vl.slice z i q0).ownBlock.toList) fun K=>f.new.apart B (List.mem_cons_self ..) (Qe _ K);have S:=hZ f;have ar:=hZ q;have ae:=hZ m;have aX:=hZ aH;have ba:=q.lt;have aA:=hZ C;have U:=hZ Y;have aD:wr.cell? ⟨B,0,nN⟩=nM (nS z i q0):=aj;clear f q aH m C hs V O am Y aj g1 g2 ak e0;go_wp2_with fail
     go_region_law
      (first
       |(go_simp;go_at_call 36;refine(R.o _ (by exact ot)).mono ?_;rintro e l ⟨H,p,rfl,E,P,G⟩;obtain⟨aK,x1,rfl⟩:=E.iface;have aJ:=G.keeps aD;have a6:=World.block_lt_of_cell? l _ aJ;have K2:=hZ E;have K3:=hZ P;have J:=hZ G;clear E P G)
       |(go_loud(refine Df rfl _ _ _ rfl 67 .nilIface 16 underlying156 Jh rfl (nS z i q0) vs ZN xn l.heap.size (nF aK x1) ZN xp rfl xt xt ?_;rw[U.o];intro g cap w7 ah af ag;have ay:=hZ ah;have Q:=UD (Chg l w7 (Vl.slice z i q0).ownBlock.toList) ((((Chg.refl l []).alloc _).none _).trans af);have aw:=UD ((Vl.slice z i q0).ownBlock=nM g\/l.heap.size<=g) (ag.imp id (fun h=>by rw[World.size_alloc]at h;omega));have L:=hZ ((ar.o.kept J.o).kept Q.o aq.o);have a5:=L.o.cell 0;have a2:∀j,w7.frozen? ⟨B,j,nN⟩=false:=(fun j=>L.o.frozen j);have a7:=L.o.lt;clear ah af ag)))
     all_goals
      go_wp2_with fail;go_roundw
      case rel=>
       have W:=S.o.push K2.o K3.o J.o ay.o Q.o aw.o ae.o.size;rw[<-Cb aA.o]at W;have aE:B∉(Vl.slice (nM ⟨g,0,nN⟩) (i+1) cap).ownBlock.toList++(A++p):=W.new.apart B (List.mem_cons_self ..);refine⟨i+1,_,_,_,Zj,by go_num,L.o.set 0 _, ?_,W.kept (cs:=[B]) ((Chg.refl _ _).setCell _ _ Zh) (fun b a=>by simp at a;subst a;exact aE), ?_⟩
       .refine((aX.o.kept J.o).kept Q.o (fun x n K=>S.o.new.apart x (Qg _ (by simpa using n)) (Qe _ K))).kept (bs:=[B]) ((Chg.refl _ _).setCell _ _ Zh) (fun x n K=> ?_);simp at K;subst K;exact(List.nodup_cons.1 Z.o.nodup).1 (by simpa using n)
       exact xg
      case measure=>simp[intOf];omega
    .have aF:i=d.length:=by omega
     rw[aF,Qn (Q8 _)]at f;go_wp2;go_ret;exact⟨_,B::(sv.ownBlock.toList++(y.ownBlock.toList++A)),rfl,by simp only[AP];exact⟨B,sv,y,vs,A,rfl,q,f.lst,aH,aO.o,f.at_,rfl⟩,f.new.perm ((Ew _ _ _).cons B),m⟩
end
section
open Go Go.RowKit Tree Ptr
variable{s:BY}{ks r ts:List BY}{i k:Nat}{p:Prop}{t x:Tr}{a:Type}
def eN(ks:List BY)(s:BY):Int:=if C4 ks s=true then(A5 ks s:Int)else-1
theorem eO(h:ks[i]? =nM s)(e:∀j k,j<i->ks[j]? =nM k->k≠s):eN ks s=i:=by
 have d:s∈ks:=Qi h
 have f:A5 ks s=i:=by
  have c:i<ks.length:=(Qc.1 h).1;refine(List.findIdx_eq c).2 ⟨?_,fun j a=> ?_⟩
  .have:=(Qc.1 h).2;simpa using this
  .have b:j<ks.length:=by omega
   have:=e j ks[j] a (Q9 b);simpa using this
 unfold eN;rw[Qr (Cp.2 d),f]
theorem eL(b:∀j k,j<ks.length->ks[j]? =nM k->k≠s):eN ks s= -1:=by
 unfold eN;rw[Qs];intro h;obtain⟨j,a⟩:=List.mem_iff_getElem?.1 (Cp.1 h);exact b j s (Qc.1 a).1 a rfl
def pS(a:Nat)(x:Tr):List BY->Tr->Tr
 |[],_=>x
 |s::r,t=>if r=[]/\a=1 then Cj s x t else if r=[]/\a=2 then CT s t else match D6 t s with
  |some i=>match(Ab t)[i]? with
   |some u=>AW t ((Ab t).set i (pS a x r u))
   |none=>t
  |none=>t
theorem rO(x:Tr):∀(ts:List BY) (t:Tr),pS 0 x ts t=AE t ts x
 |[],_=>rfl
 |s::r,t=>by
  unfold pS AE Bz;rw[Qs Zh,Qs Zh];cases D6 t s with
  |none=>rfl
  |some i=>
   simp only;cases (Ab t)[i]? with
   |none=>rfl
   |some u=>simp only;rw[rO x r u];rfl
theorem qC(s a:BY)(r:List BY):AH (s::a::r)=AH (a::r):=by unfold AH;simp
theorem qG(x:Tr):∀(ts:List BY) (t:Tr),pS 1 x ts t=At t ts x
 |[],_=>rfl
 |[s],t=>by unfold pS At;rw[Qr ⟨rfl,rfl⟩,Qs Zh];rfl
 |s::a::r,t=>by
  unfold pS At;rw[Qs Zh,Qs Zh,Qs Zh,List.dropLast_cons₂,Bz,qC];cases D6 t s with
  |none=>rfl
  |some i=>
   simp only;cases (Ab t)[i]? with
   |none=>rfl
   |some u=>simp only;rw[qG x (a::r) u];unfold At;rw[Qs Zh]
theorem q9(x:Tr):∀(ts:List BY) (t:Tr),ts≠[]->pS 2 x ts t=A8 t ts
 |[],_,h=>absurd rfl h
 |[s],t,_=>by unfold pS A8;rw[Qs Zh,Qr ⟨rfl,rfl⟩];rfl
 |s::a::r,t,_=>by
  unfold pS A8;rw[Qs Zh,Qs Zh,List.dropLast_cons₂,Bz,qC];cases D6 t s with
  |none=>rfl
  |some i=>
   simp only;cases (Ab t)[i]? with
   |none=>rfl
   |some u=>simp only;rw[q9 x (a::r) u Zh];rfl
def pX(a:Nat)(t:Tr)(ts:List BY):Prop:=match a with
 |0=>∃u,Ah t ts=nM u
 |1=>EN t ts=0
 |_=>ts≠[]/\∃u,Ah t ts=nM u
theorem rt{v:Tr}(a:D6 t s=nM i)(b:(Ab t)[i]? =nM v):Ah t (s::r)=Ah v r:=by
 show(Dy t s).bind _=_
 unfold Dy;rw[a];show((Ab t)[i]?).bind _=_
 rw[b];rfl
theorem pX.down{f:Nat}(l:f<=2)(h:pX f t (s::r))(b:r≠[]\/f=0):∃i u,D6 t s=nM i/\(Ab t)[i]? =nM u/\pX f u r:=by
 match f,l with
 |0,_=>
  obtain⟨u,g⟩:=h;obtain⟨i,v,c,d,e⟩:=CC g;exact⟨i,v,c,d,u,e⟩
 |1,_=>
  have b:r≠[]:=b.resolve_right ZM;have h:EN t (s::r)=0:=h;obtain⟨p,k,j⟩:=Ol Zh h;obtain⟨a,m,rfl⟩:=List.exists_cons_of_ne_nil b;rw[List.dropLast_cons₂]at k;obtain⟨i,v,c,d,e⟩:=CC k;refine⟨i,v,c,d, ?_⟩;show EN v (a::m)=0
  rw[qC]at j;unfold EN;rw[Qs Zh,e];exact j
 |2,_=>
  have b:r≠[]:=b.resolve_right ZM;obtain⟨_,u,g⟩:=h;obtain⟨i,v,c,d,e⟩:=CC g;exact⟨i,v,c,d,b,u,e⟩
theorem pX.cut(h:pX 2 t [s]):∃i u,D6 t s=nM i/\(Ab t)[i]? =nM u:=by
 obtain⟨_,u,c⟩:=h;obtain⟨i,v,a,b,_⟩:=CC c;exact⟨i,v,a,b⟩
theorem pX.add(h:pX 1 t [s]):Gg s t=0:=by
 have h:EN t [s]=0:=h;obtain⟨p,a,b⟩:=Ol Zh h;have:p=t:=by injection a with a;exact a.symm
 subst this;exact b
def pH{a:Type}(l:List a)(i:Nat)(r:Option a)(k:Nat):List a:=match r with
 |some y=>(l.take k).set i y
 |none=>(l.take k).eraseIdx i
theorem qk(l:List a)(i:Nat)(r:Option a):pH l i r 0=[]:=by cases r<;>simp[pH]
theorem xh(h:p:=by rw[Ql];omega):p:=h
theorem xA(h:p:=by simp;omega):p:=h
theorem pY{b:Type}{l:List b}{r:Option b}{y:b}(a:l[k]? =nM y)(h:k≠i):pH l i r (k+1)=pH l i r k++[y]:=by
 have d:k<l.length:=(Qc.1 a).1;have c:(l.take k).length=k:=xh
 cases r with
 |some z=>
  simp only[pH];rw[List.take_add_one,a];by_cases hi:i<k
  .rw[List.set_append_left _ _ Zj];rfl
  .rw[List.set_append_right _ _ Zj,c];rw[List.set_eq_of_length_le (l:=l.take k) Zj];rw[List.set_eq_of_length_le xA];rfl
 |none=>
  simp only[pH];rw[List.take_add_one,a];by_cases hi:i<k
  .rw[List.eraseIdx_append_of_lt_length Zj];rfl
  .rw[List.eraseIdx_append_of_length_le Zj,c];rw[List.eraseIdx_of_length_le (l:=l.take k) Zj];rw[List.eraseIdx_of_length_le xA];rfl
theorem rG{l:List a}{z:a}(b:k<l.length):pH l k (nM z) (k+1)=pH l k (nM z) k++[z]:=by
 have c:(l.take k).length=k:=xh
 simp only[pH];rw[List.take_add_one,Q9 b,List.set_append_right _ _ Zj,c];rw[List.set_eq_of_length_le (l:=l.take k) Zj];simp
theorem rF{c:Type}{l:List c}(a:k<l.length):pH l k nN (k+1)=pH l k nN k:=by
 have b:(l.take k).length=k:=xh
 simp only[pH];rw[List.take_add_one,Q9 a,List.eraseIdx_append_of_length_le Zj,b];rw[List.eraseIdx_of_length_le (l:=l.take k) Zj];simp
theorem qu(l:List a)(i:Nat)(r:Option a):pH l i r l.length=match r with
 |some y=>l.set i y
 |none=>l.eraseIdx i:=by cases r<;>simp[pH]
theorem qp(l:List a)(i:Nat)(r:Option a)(k:Nat)(c:k<=l.length):(pH l i r k).length=if r.isNone=true/\i<k then k-1 else k:=by
 have b:(l.take k).length=k:=xh
 cases r with
 |some y=>simp[pH];omega
 |none=>
  simp only[pH,List.length_eraseIdx,b];simp
structure sA(s:Sz):Prop where
 nodes:s.nodes<=1099511627776
 bytes:s.bytes<=1152921504606846976
 depth:s.depth<=1099511627776
theorem xB(h:p:=by have:=g.nodes;have:=g.bytes;have:=g.up;exact⟨Zj,Zj,Zj⟩):p:=h
theorem t8{u:Tr}(h:Bt t)(b:Bt x)(e:ts.length<=65536)(a:Ah t ts=nM u):sA (Ag (AE t ts x)):=by
 have g:=XM (x:=x) a;have c:=Ar h.fits;have d:=Ar b.fits;exact xB
theorem tI{p:Tr}(h:Bt p)(i:Bt x)(m:s.size<=16777216)(b:Gg s p=0):(Ag (Cj s x p)).nodes<=131072/\(Ag (Cj s x p)).bytes<=4294967296/\(Ag (Cj s x p)).depth<=1024:=by
 have j:=Ar h.fits;have k:=Ar i.fits;by_cases a:∃ks l,p= .obj ks l/\C4 ks s=true
 .obtain⟨ks,l,rfl,a⟩:=a;have e:Cj s x (.obj ks l)= .obj ks (l.set (A5 ks s) x):=Qr a;rw[e];cases hi:l[A5 ks s]? with
  |none=>rw[List.set_eq_of_length_le (List.getElem?_eq_none_iff.1 hi)];omega
  |some v=>
   have f:D6 (.obj ks l) s=nM (A5 ks s):=Qr a;have g:=Eg.set (t:= .obj ks l) (v':=x) f hi (Eg.here (Ag v) (Ag x));simp only[AW,Ab]at g;have:=g.nodes;have:=g.bytes;have:=g.up;omega
 .have c:∀ks l,p= .obj ks l->C4 ks s=false:=fun ks l e=>by
   cases d:C4 ks s with
   |false=>rfl
   |true=>exact absurd ⟨ks,l,e,d⟩ a
  clear a;cases p with
  |obj ks l=>have:=VA (x:=x) h.good b c s.size rfl;omega
  |list l=>have:=VA (x:=x) h.good b c 0 rfl;omega
  |_=>simp[Gg]at b
theorem rW(h:Bt t)(c:Bt x)(n:ts.length<=65536)(i:∀s∈ts,s.size<=16777216)(d:EN t ts=0):sA (Ag (At t ts x)):=by
 unfold At;by_cases a:ts=[]
 .rw[Qr a];have k:=Ar c.fits;exact⟨Zj,Zj,Zj⟩
 .rw[Qs a];obtain⟨p,b,e⟩:=Ol a d;have g:=Eg.mod (f:=Cj (AH ts) x) b (Eg.here (Ag p) (Ag (Cj (AH ts) x p)));have j:=Ar h.fits;have l:=tI (h.lead b) c (i _ (Re a)) e;have m:ts.dropLast.length<=65536:=by rw[List.length_dropLast];omega
  exact xB
def tG(t:Tr)(s:BY):Int:=match D6 t s with
 |some i=>(i:Int)
 |none=> -1
def pJ(s:BY)(n:Nat):Int:=match bL s n with
 |some i=>(i:Int)
 |none=> -1
def pW(s:BY):Bool:=(D5 s.data.toList).isSome
theorem sE(s:BY)(l:List Tr):Gg s (.list l)=if s=IN then 0 else if pW s=true then(if pJ s (l.length+1)<0 then 4 else 0)else 172:=by
 show(if s=IN then 0 else match D5 s.data.toList with
  |none=>172
  |some k=>if k<l.length+1 then 0 else 4)=_
 unfold pW pJ bL;by_cases a:s=IN
 .rw[Qr a,Qr a]
 .rw[Qs a,Qs a];cases c:D5 s.data.toList with
  |none=>simp
  |some k=>
   simp only[Option.isSome_some,if_true];by_cases b:k<l.length+1
   .simp[b]
   .simp[b]
end
section
open _root_.Go.Proofs.Tryz
open Go Go.RowKit Tree Ptr
variable{p:Prop}{w:Wl}
theorem FK(v:Vl)(w:Wl):(callMethod (nF 169 (nA #[v])) GK #[]).run prog w= .ok (.enter 285 #[nA #[v]]) w:=Yb
theorem QA(b:Nat)(w:Wl):(callMethod (nF 155 (nP (nM ⟨b,0,nN⟩))) GK #[]).run prog w= .ok (.enter 275 #[nP (nM ⟨b,0,nN⟩)]) w:=Yb
theorem No(b:Nat)(w:Wl):(callMethod (nF 161 (nP (nM ⟨b,0,nN⟩))) GK #[]).run prog w= .ok (.enter 282 #[nP (nM ⟨b,0,nN⟩)]) w:=Yb
def NQ(v:Vl)(t:Tr)(w:Wl):Prop:=∃f args,(callMethod v GK #[]).run prog w= .ok (.enter f args) w/\Cl prog f args w (SF t w)
theorem EG(t:Tr)(a:Vl)(c:∃b x,a= nF b x)(w:Wl)(h:∀w',AP w' t (nF 169 (nA #[a])) []):Cl prog 285 #[nA #[a]] w (SF t w):=by
 obtain⟨b,x,rfl⟩:=c;go_enter func285,ntmps285;go_wp2;go_ret;exact⟨_,[],rfl,h _,BP.nil _,by exact cg cR⟩
def Yh(l:List Tr)(w:Wl)(e:Ending)(w':Wl):Prop:=∃sv vs a,e= nR sv/\GD w w' [] l sv vs a/\Chg w w' []
theorem Y8(l:List Tr)(vs:List Vl)(fs:List Nat)(b:Nat)(a:Option Addr)(c:Nat)(w:Wl)(B:w.cell? ⟨b,0,nN⟩=nM (nS a vs.length c))(N:AK w (nS a vs.length c) 67 vs)(A:PsAt w l vs fs)(hl:l.length<=65536)(J:∀u v y w',u∈l->AP w' u v y->NQ v u w'):
  Cl prog 278 #[nP (nM ⟨b,0,nN⟩)] w (Yh l w):=by
 have T:=A.length;have lb:=World.block_lt_of_cell? w _ B;have I:=hZ N;have HP:=hZ A;have Y:=hZ J;have s:=hZ T;have ah:vs.length<=65536:=Zj;clear N A J T;go_enter func278,ntmps278;go_wp2
 go_loopw [3,11] (fun v3 F wr=>∃(k:Nat) (sv:Vl) (us:List Vl) (z:List Nat),k<=vs.length/\F= nI nX k/\sv=v3/\GD w wr [] (l.take k) sv us z/\Chg w wr [])
  (fun _ F _=>vs.length-(intOf F).toNat)
 case atStart=>exact⟨0,_,[],[],Zj,rfl,rfl,by simpa using GD.nil (BP.nil w) (fun b B=>by cases B),by exact cg cR⟩
 case round=>
  obtain⟨k,sv,us,z,hk,rfl,rfl,d,i⟩:=hrel;by_cases ae:k<vs.length
  .obtain⟨u,o⟩:∃u,l[k]? =nM u:=⟨_,Q9 (by have:=s.o;omega)⟩;obtain⟨v,y,S,C,_⟩:=HP.o.get o
   obtain⟨g,rfl⟩:∃g,a=nM ⟨g,0,nN⟩:=by
    obtain⟨a',c',e,h⟩:=I.o.form;injection e with e1
    subst e1;exact h (by intro e;subst e;simp at ae)
   obtain⟨ti,x,rfl⟩:=C.iface;have ag:wr.cell? ⟨g,k,nN⟩=nM (nF ti x):=i.keeps (I.o.cell rfl k _ S);obtain⟨f,args,Q,P⟩:=Y.o u _ y wr (Qi o) (C.chg i Zh);obtain⟨m,n,rfl,_⟩:=d.lst.form;have D:us.length=k:=by rw[d.at_.length,Ql];have:=s.o;omega
   rw[D]at d|-;have q:=hZ d;have H:=hZ i;have ab:=hZ o;have r:=hZ D;have aa:=hZ Q;have W:=hZ P;clear Q P d i o S C D
   go_wp2_with(first
    |(refine Am rfl _ _ _ rfl _ rfl f args aa.o _ W.o ?_;rintro e p ⟨v1,bv,rfl,E,U,V⟩;refine⟨_,rfl, ?_⟩;obtain⟨af,x1,rfl⟩:=E.iface;have K2:=hZ E;have K3:=hZ U;have t:=hZ V;clear E U V)
    |(refine AM rfl _ _ _ rfl 67 .nilIface 16 underlying156 Jh rfl (nS m k n) us ZN (by exact(q.o.lst.kept t.o).kept (bs:=[]) y8 Zh) p.heap.size (nF af x1) ZN xp rfl (by rw[r.o];omega) (by rw[r.o];omega) ?_;rw[r.o];intro K cap w7 O L M;have Z:=hZ O;have G:=UD (Chg p w7 (Vl.slice m k n).ownBlock.toList) ((((Chg.refl p []).alloc _).none _).trans L);have X:=UD ((Vl.slice m k n).ownBlock=nM K\/p.heap.size<=K) (M.imp id (fun h=>by rw[World.size_alloc]at h;omega));clear O L M))
   go_roundw
   case rel=>
    have R:=q.o.push K2.o K3.o t.o Z.o G.o X.o H.o.size;rw[<-Cb ab.o]at R;refine⟨k+1,_,_,_,Zj,by go_num,rfl,R,(H.o.trans t.o).step G.o fun j hj hl=> ?_⟩;have:=q.o.new.ge j (by simpa using Or.inl hj);omega
   case measure=>simp[intOf];omega
  .have ad:l.take k=l:=Qn (by have:=s.o;omega);rw[ad]at d;obtain⟨m,n,rfl,_⟩:=d.lst.form;go_wp2;go_ret;exact⟨_,us,z,rfl,d,i⟩
theorem NI(l:List Tr)(vs:List Vl)(m:List Nat)(b:Nat)(a:Option Addr)(c:Nat)(w:Wl)(s:w.cell? ⟨b,0,nN⟩=nM (nS a vs.length c))(q:AK w (nS a vs.length c) 67 vs)(r:PsAt w l vs m)(A:l.length<=65536)(k:∀u v z w',u∈l->AP w' u v z->NQ v u w'):
  Cl prog 275 #[nP (nM ⟨b,0,nN⟩)] w (SF (.list l) w):=by
 have y:=hZ (Y8 l vs m b a c w s q r A k);clear s q r k;go_enter func275,ntmps275
 go_wp2_with(first
  |(go_at_call 278;refine y.o.mono ?_;rintro e f ⟨sv,us,n,rfl,d,o⟩;obtain⟨g,h,rfl,_⟩:=d.lst.form;have t:=hZ d;have j:=hZ o;clear d o))
 go_ret;have d:=t.o;have p:=d.kept (cs:=[]) ((Chg.refl f []).alloc (nC #[nS g us.length h] 158)) Zh;refine⟨_,f.heap.size::((Vl.slice g us.length h).ownBlock.toList++n),rfl, ?_,⟨List.nodup_cons.2 ⟨fun B=> ?_,by simpa using d.new.nodup⟩,fun x i=> ?_⟩,by exact cg j.o⟩
 .simp only[AP];exact⟨f.heap.size,_,us,n,rfl,Ac.new f [nS g us.length h] _,p.lst,p.at_,rfl⟩
 .have:=d.ltAll _ (by simpa using B);omega
 .rcases Qh.1 i with rfl|i
  .exact j.o.size
  .exact d.new.ge x (by simpa using i)
theorem cA{sk:Vl}(h:∀g,sk.ownBlock=nM g->w.heap.size<=g):BP w sk.ownBlock.toList:=by
 refine⟨?_,fun b a=>h b (by simpa using a)⟩;cases sk.ownBlock<;>simp
theorem LB(ks:List BY)(l:List Tr)(vs:List Vl)(V:List Nat)(b:Nat)(a:Option Addr)(c:Nat)(B:Option Addr)(C:Nat)(w:Wl)(M:Ac w b [nS a vs.length c,nS B ks.length C] 163)(X:AK w (nS a vs.length c) 67 vs)(W:AK w (nS B ks.length C) 9 (Ad ks))(Y:PsAt w l vs V)(hl:l.length<=65536)(aa:ks.length=l.length)(U:∀u v bu w',u∈l->AP w' u v bu->NQ v u w'):
  Cl prog 282 #[nP (nM ⟨b,0,nN⟩)] w (SF (.obj ks l) w):=by
 have Z:w.cell? ⟨b,0,nN⟩=nM (nS a vs.length c):=M.cell 0;have A:w.cell? ⟨b,1,nN⟩=nM (nS B ks.length C):=M.cell 1
 have Q:=UD (∀s r,Chg w r []->Chg r s []->Cl prog 278 #[nP (nM ⟨b,0,nN⟩)] s fun e k=>∃m n us q,e= nR (nS m us.length n)/\AK k (nS m us.length n) 67 us/\PsAt k l us q/\BP r ((Vl.slice m us.length n).ownBlock.toList++q)/\(∀x,x∈(Vl.slice m us.length n).ownBlock.toList++q->x<k.heap.size)/\Chg r k []) fun s r E j=>
  (Y8 l vs V b a c s ((E.trans j).keeps Z) (X.kept (E.trans j)) (Y.chg (E.trans j) Zh) hl U).mono fun e k ⟨sv,us,q,h0,d,f⟩=>by
   obtain⟨m,n,rfl,_⟩:=d.lst.form;exact⟨m,n,us,q,h0,d.lst,d.at_,(by simpa using d.new:BP s _).of_le j.size,fun x j=>d.ltAll x (by simpa using j),j.trans f⟩
 have R:=UD (∀s r,Chg w r []->Chg r s []->Cl prog 23 #[nS B ks.length C] s fun e k=>∃o p,e= nR (nS o (Ad ks).length p)/\AK k (nS o (Ad ks).length p) 9 (Ad ks)/\BP r (Vl.slice o (Ad ks).length p).ownBlock.toList/\Chg r k []) fun s r E j=>by
  have hk:=W.kept (E.trans j);refine(DL (fun g=>(Vl.slice B ks.length C).ownBlock=nM g) _ _ s hk.toRow (Gu ks) (by rw[Ao];omega)).mono ?_;rintro e k ⟨sk,rfl,d,f,i⟩;obtain⟨o,p,rfl,_⟩:=d.form;exact⟨o,p,rfl,d,(cA f).of_le j.size,j.trans i⟩
 have ab:=hZ aa;clear M X W Y U Z aa;go_enter func282,ntmps282;go_wp2_with fail
 go_region_held3(fun w'=>w'.cell? ⟨b,1,nN⟩=nM (nS B ks.length C)) (first|exact A|exact O|exact N|exact(fun h:Chg y _ []=>h.keeps O) y8|exact(fun h:Chg I _ []=>h.keeps N) y8|exact(fun h:Chg w _ []=>h.keeps A) y8)
  (first
   |(go_at_call 278;refine(Q.o _ I G.o y8).mono ?_;rintro e k ⟨m,n,us,q,rfl,d,f,i,H,z⟩;have D:=UD (Chg w k []) (G.o.trans z);have J:=UD (AK k (nS o (Ad ks).length p) 9 (Ad ks)) (S.o.kept z);have T:=UD (BP w ((Vl.slice o (Ad ks).length p).ownBlock.toList++((Vl.slice m us.length n).ownBlock.toList++q))) (af.o.append S.o.ltB i G.o.size);have K:=hZ d;have L:=hZ f;obtain⟨y,rfl⟩:=Ue k;have O:=D.o.keeps A;clear d f i H z)
   |(go_at_call 278;refine(Q.o _ w cR y8).mono ?_;rintro e k ⟨m,n,us,q,rfl,d,f,i,H,z⟩;have F:=hZ z;have ae:=hZ i;have ad:=hZ d;have ag:=hZ f;have ah:=hZ H;obtain⟨I,rfl⟩:=Ue k;have N:=F.o.keeps A;clear d f i H z)
   |(go_at_call 23;refine(R.o _ I F.o y8).mono ?_;rintro e w2 ⟨o,p,rfl,d,f,i⟩;have D:=UD (Chg w w2 []) (F.o.trans i);have J:=hZ d;have T:=UD (BP w ((Vl.slice o (Ad ks).length p).ownBlock.toList++((Vl.slice m us.length n).ownBlock.toList++q))) ((ae.o.append ah.o f F.o.size).perm List.perm_append_comm);have K:=hZ (ad.o.kept i);have L:=hZ (ag.o.chg i Zh);obtain⟨y,rfl⟩:=Ue w2;have O:=D.o.keeps A;clear d f i)
   |(go_at_call 23;refine(R.o _ w cR y8).mono ?_;rintro e w2 ⟨o,p,rfl,d,f,i⟩;have G:=hZ i;have af:=hZ f;have S:=hZ d;obtain⟨I,rfl⟩:=Ue w2;have N:=G.o.keeps A;clear d f i))
 all_goals
  go_wp2_with fail;go_ret;have P:Chg y (y.alloc (nC #[nS m us.length n,nS o (Ad ks).length p] 163)) []:=(Chg.refl y []).alloc _;refine⟨_,y.heap.size::((Vl.slice m us.length n).ownBlock.toList++((Vl.slice o (Ad ks).length p).ownBlock.toList++q)),rfl, ?_, ?_,by exact cg D.o⟩
  .simp only[AP];exact⟨y.heap.size,_,_,us,q,rfl,Ac.new y [nS m us.length n,nS o (Ad ks).length p] _,K.o.kept P,J.o.kept P,ab.o,L.o.chg P Zh,rfl⟩
  .have hn:=T.o.perm (Ew (Vl.slice m us.length n).ownBlock.toList (Vl.slice o (Ad ks).length p).ownBlock.toList q);refine⟨List.nodup_cons.2 ⟨fun t=> ?_,hn.nodup⟩,fun x j=> ?_⟩
   .simp only[Qf]at t;rcases t with t|t|t
    .have:=K.o.ltB _ t;omega
    .have:=J.o.ltB _ t;omega
    .have:=PsAt.lt _ _ _ L.o _ t;omega
   .rcases Qh.1 j with rfl|j
    .exact D.o.size
    .exact hn.ge x j
theorem Xq:∀(k:Nat) (t:Tr) (v:Vl) (bs:List Nat) (w:Wl),(Ag t).nodes<=k->(Ag t).nodes<=65536->AP w t v bs->NQ v t w:=by
 intro k;induction k with
 |zero=>intro t _ _ _ h;have:=Cv t;omega
 |succ k y=>
  intro t v bs w C D d
  have g:∀u v j w',u∈Ab t->AP w' u v j->NQ v u w':=by
   intro u v j w' s r;obtain⟨i,hi⟩:=List.mem_iff_getElem?.1 s;have:=CO hi;exact y u v j w' Zj Zj r
  have p:=Bj t;cases t with
  |null=>
   simp only[AP]at d;obtain⟨rfl,rfl⟩:=d;exact⟨_,_,FK _ w,EG .null _ ⟨_,_,rfl⟩ w (fun _=>by simp[AP,AG])⟩
  |flag x=>
   simp only[AP]at d;obtain⟨rfl,rfl⟩:=d;exact⟨_,_,FK _ w,EG (.flag x) _ ⟨_,_,rfl⟩ w (fun _=>by simp[AP,AG])⟩
  |num x=>
   simp only[AP]at d;obtain⟨rfl,rfl⟩:=d;exact⟨_,_,FK _ w,EG (.num x) _ ⟨_,_,rfl⟩ w (fun _=>by simp[AP,AG])⟩
  |text x=>
   simp only[AP]at d;obtain⟨rfl,rfl⟩:=d;exact⟨_,_,FK _ w,EG (.text x) _ ⟨_,_,rfl⟩ w (fun _=>by simp[AP,AG])⟩
  |list l=>
   simp only[AP]at d;obtain⟨b,B,vs,m,rfl,f,e,n,rfl⟩:=d;obtain⟨a,c,rfl,_⟩:=e.form;simp only[Ab]at p g;exact⟨_,_,QA b w,NI l vs m b a c w (f.cell 0) e n Zj g⟩
  |obj ks l=>
   simp only[AP]at d;obtain⟨b,B,sk,vs,m,rfl,f,e,o,q,n,rfl⟩:=d;obtain⟨a,c,rfl,_⟩:=e.form;obtain⟨z,A,rfl,_⟩:=o.form;rw[Ao]at f o;simp only[Ab]at p g;exact⟨_,_,No b w,LB ks l vs m b a c z A w f e o n Zj q g⟩
theorem xj(h:p:=by simpa using d):p:=h
theorem MC(ks:List BY)(l:List Tr)(vs:List Vl)(M:List Nat)(b:Nat)(a:Option Addr)(c:Nat)(k:Option Addr)(m:Nat)(w:Wl)(hB:Ac w b [nS a vs.length c,nS k ks.length m] 163)(hL:AK w (nS a vs.length c) 67 vs)(hK:AK w (nS k ks.length m) 9 (Ad ks))(hP:PsAt w l vs M)(hl:l.length<=65536)(aH:ks.length=l.length)(G:Nat->Prop)(sv:Vl)(n:Nat)(L:List Ap)(xs:List Vl)(F:Nj (b::((Vl.slice a vs.length c).ownBlock.toList++((Vl.slice k ks.length m).ownBlock.toList++M))) G sv n L xs w)(hn:n+(Ag (.obj ks l)).nodes<=4294967296)(V:∀x,x∈b::((Vl.slice a vs.length c).ownBlock.toList++((Vl.slice k ks.length m).ownBlock.toList++M))->x<w.heap.size)(IH:∀u v bu w',u∈l->AP w' u v bu->(∀x,x∈bu->x<w'.heap.size)->LQ v u bu w'):
  Cl prog 284 #[nP (nM ⟨b,0,nN⟩),sv] w (CJ G sv n (Ag (.obj ks l)).nodes (L++MW (.obj ks l)) w):=by
 have aJ:=hP.length;have aC:(Ag (.obj ks l)).nodes=(Bk l).nodes+1:=by simp only[Ag,Sz.over];omega
 rw[aC]at hn|-;obtain⟨BS,O⟩:=Ue (b::((Vl.slice a vs.length c).ownBlock.toList++((Vl.slice k ks.length m).ownBlock.toList++M)));rw[<-O]at F V;have ax:w.cell? ⟨b,0,nN⟩=nM (nS a vs.length c):=hB.cell 0;have S:w.cell? ⟨b,1,nN⟩=nM (nS k ks.length m):=hB.cell 1;have lb:=hB.lt;have am:b∈BS:=by rw[O];simp
 have az:b∉sv.ownBlock.toList:=fun d=>(F.own b xj).1 am;have aD:∀x,w.heap.size<=x->x∉sv.ownBlock.toList:=fun x y d=>by have:=F.lst.lt xj;omega
 have aB:∀g,(Vl.slice k ks.length m).ownBlock=nM g->g∉sv.ownBlock.toList:=fun g i d=>(F.own g xj).1 (by rw[O];simp[i])
 have HW:=UD (∀q,Chg w q []->Cl prog 279 #[nP (nM ⟨b,0,nN⟩),sv] q fun e D=>∃C,e= nR C/\I9 BS G sv (n+(Bk l).nodes) (L++KH l) w C D/\Chg q D sv.ownBlock.toList/\(∀g,C.ownBlock=nM g->sv.ownBlock=nM g\/q.heap.size<=g)) fun q y=>
  (I4 l vs M BS b a c q (y.keeps ax) (hL.kept y) (hP.chg y Zh) (fun x ag=>by rw[O];simp only[Qh,Qf]at ag|-;rcases ag with h|h|h;exact .inl h;exact .inr (.inl h);exact .inr (.inr (.inr h))) (fun x ag=>Q6 (V x ag) y.size) hl G sv n L xs (F.kept y) Zj IH).mono fun e D h=>by
   obtain⟨C,he,d⟩:=I9.of F V y h;obtain⟨v2,_,_,aA,_,_,hc,ho,_⟩:=h;have:C=v2:=by rw[he]at aA;injection aA
   subst this;exact⟨C,he,d,hc,ho⟩
 have ao:=UD (∀q,Chg w q sv.ownBlock.toList->Cl prog 23 #[nS k ks.length m] q (Dm q 9 (Ad ks))) fun q y=>by
  have B:=hK.kept y aB;exact DL (fun g=>(Vl.slice k ks.length m).ownBlock=nM g) _ _ q B.toRow (Gu ks) (by rw[Ao];omega)
 have ai:=hZ az;have ak:=hZ aD;have an:=hZ am;have aF:=hZ V;have I:=UD ((n+(Bk l).nodes+1)*72<=140737488355328/\n+(Bk l).nodes<=140737488355328) ⟨Zj,Zj⟩;clear hB hL hP F V IH aC am az aD O hn aJ hK aB ax aH;obtain⟨M,hM⟩:=Ue ((Bk l).nodes);rw[<-hM]at HW I|-;obtain⟨N,hN⟩:=Ue (n+M);rw[<-hN]at HW I;have aG:=hZ hN;clear hN hM;go_enter func284,ntmps284;go_wp2_with fail
 go_region_held3(fun w'=>w'.cell? ⟨b,1,nN⟩=nM (nS k ks.length m)) (first|exact S|exact E|exact al|exact ay|exact(fun h:Chg r _ []=>h.keeps E) y8|exact(fun h:Chg w2 _ []=>h.keeps al) y8)
  (first
   |(go_at_call 279;refine(HW.o _ (by exact cg aj.o)).mono ?_;rintro e D ⟨C,rfl,d,U,af⟩;obtain⟨s,c1,rfl⟩:=d.slots;have au:=UD (∀g,(Vl.slice s N c1).ownBlock=nM g->(Vl.slice z (Ad ks).length A).ownBlock≠nM g) (fun g i B=>by rcases af g i with h|h;exact ak.o g (aa.o g B) (by simp[h]);have h1:=Q7 (Chg.size (a:=w2) (bs:=[]) y8) h;have h2:=aq.o.lt B;omega);have K:=UD (AK D (nS z (Ad ks).length A) 9 (Ad ks)) ((aq.o.kept (bs:=[]) y8 Zh).kept U (fun g i=>ak.o g (aa.o g i)));obtain⟨r,rfl⟩:=Ue D;have E:=(d.chg.cell (p:=⟨b,1,nN⟩) lb ai.o).trans S;have L:=hZ d;have aE:=hZ U;clear d U af)
   |(go_at_call 279;refine(HW.o _ y8).mono ?_;rintro e D ⟨C,rfl,d,U,af⟩;obtain⟨s,c1,rfl⟩:=d.slots;have al:=(d.chg.cell (p:=⟨b,1,nN⟩) lb ai.o).trans S;have ab:=hZ d;clear d U af)
   |(go_at_call 23;refine(ao.o _ (by exact cg ab.o.chg)).mono ?_;rintro e w2 ⟨sk,rfl,H,J,T⟩;obtain⟨z,A,rfl,_⟩:=H.form;obtain⟨r,rfl⟩:=Ue w2;have L:=hZ (ab.o.kept T);have K:=hZ H;have E:=(L.o.chg.cell (p:=⟨b,1,nN⟩) lb ai.o).trans S;have aa:=UD (∀g,(Vl.slice z (Ad ks).length A).ownBlock=nM g->w.heap.size<=g) (fun g i=>Q7 ab.o.chg.size (J g i));have au:=UD (∀g,(Vl.slice s N c1).ownBlock=nM g->(Vl.slice z (Ad ks).length A).ownBlock≠nM g) (fun g i B=>by obtain⟨G1,ah,h1,_⟩:=ab.o.ex;have h2:=h1.lst.lt i;have h3:D.heap.size<=g:=J g B;omega);clear H J T)
   |(go_at_call 23;refine(ao.o _ (by exact cg ((Chg.refl w []).none _))).mono ?_;rintro e w2 ⟨sk,rfl,H,J,T⟩;obtain⟨z,A,rfl,_⟩:=H.form;have aj:=UD (Chg w w2 []) ((Chg.refl w []).drew.trans T);have aq:=hZ H;have al:=aj.o.keeps S;have aa:=UD (∀g,(Vl.slice z (Ad ks).length A).ownBlock=nM g->w.heap.size<=g) J;clear H J T)
   |(obtain⟨G1,ah,t,W,X⟩:=L.o.ex;(refine Bw rfl _ _ _ rfl 55 Iq 6 72 ZM underlying22 DM rfl (nS s N c1) N ah ZN (by exact t.lst.kept (bs:=[]) y8 Zh) r.heap.size (AI ⟨6,false,0,Dz,0,ks⟩ (nS z (Ad ks).length A)) ZN ZN (by exact Ff _ _ _) (C0 _ _ _ _) I.o.1 I.o.2 ?_);intro g cap Y R P Q;have ar:=hZ R;have Z:=UD (Chg r Y (Vl.slice s N c1).ownBlock.toList) ((((Chg.refl r []).alloc _).none _).trans P);have ap:=UD ((Vl.slice s N c1).ownBlock=nM g\/r.heap.size<=g) (Q.imp id (fun h=>by rw[World.size_alloc]at h;omega));have ad:=hZ t;have av:=hZ W;have aw:=hZ X;have ay:Y.cell? ⟨b,1,nN⟩=nM (nS k ks.length m):=(Z.o.cell (World.block_lt_of_cell? r _ E) (fun d=>(t.own b xj).1 an.o)).trans E;clear R P Q t W X)
   |(obtain⟨G1,ah,t,W,X⟩:=L.o.ex;(refine Bw rfl _ _ _ rfl 55 Iq 6 72 ZM underlying22 DM rfl (nS s N c1) N ah ZN (by exact t.lst.kept (bs:=[]) y8 Zh) w2.heap.size (AI ⟨6,false,0,Dz,0,ks⟩ (nS z (Ad ks).length A)) ZN ZN (by intro j v hv;exact(aE.o.cell (p:=⟨w2.heap.size,j,nN⟩) Zh (ak.o _ aj.o.size)).trans (Ff _ _ _ j v hv)) (C0 _ _ _ _) I.o.1 I.o.2 ?_);intro g cap Y R P Q;have ar:=hZ R;have Z:=UD (Chg r Y (Vl.slice s N c1).ownBlock.toList) (P);have ap:=UD ((Vl.slice s N c1).ownBlock=nM g\/r.heap.size<=g) (Q.imp id (fun h=>Nat.le_of_eq h.symm));have ad:=hZ t;have av:=hZ W;have aw:=hZ X;have ay:Y.cell? ⟨b,1,nN⟩=nM (nS k ks.length m):=(Z.o.cell (World.block_lt_of_cell? r _ E) (fun d=>(t.own b xj).1 an.o)).trans E;clear R P Q t W X))
 all_goals
  go_wp2_with fail;go_ret;have e:=aG.o;subst e;rw[YT,<-List.append_assoc];have hs:(Aa (.obj ks l)).toI=⟨6,false,0,Dz,0,ks⟩:=rfl;rw[hs];refine I9.put (G2:=fun b=>G1 b\/(Vl.slice z (Ad ks).length A).ownBlock=nM b) L.o aF.o ad.o av.o aw.o ar.o Z.o ap.o ?_ ?_ (fun _ h=> .inl h) (fun b h hl=>h.resolve_right fun B=> ?_) (fun b h=> ?_) (fun g i h=> ?_)
  .have:=K.o.rowC;rw[Ao]at this|-;exact this
  .intro b o n c e;injection e with e1
   subst e1;right
   obtain⟨a',c',e2,h⟩:=K.o.form;injection e2 with e2
   by_cases aI:Ad ks=[]
   .have f:=K.o.2;rcases f with⟨f,_⟩|⟨g',aK,aL,f,_⟩
    .injection f with f;cases f
    .injection f with f;injection f with f;injection f with f h1;subst f;rfl
   .obtain⟨g',ae⟩:=h aI;rw[<-e2]at ae;injection ae with ae
    injection ae with f h1
    subst f;rfl
  .have:=aa.o b B;omega
  .rcases h with h|h
   .exact ad.o.ltG b h
   .exact K.o.lt h
  .rcases h with h|h
   .exact(ad.o.own g i).2 h
   .exact au.o g i h
theorem xq(h:p:=by simpa[Ag]using f):p:=h
theorem YJ:∀(k:Nat) (t:Tr) (v:Vl) (bs:List Nat) (w:Wl),(Ag t).nodes<=k->Av t->(Ag t).within=true->AP w t v bs->(∀x,x∈bs->x<w.heap.size)->LQ v t bs w:=by
 intro k;induction k with
 |zero=>intro t _ _ _ h;have:=Cv t;omega
 |succ k F=>
  intro t v bs w K D A d s G sv n L xs e f
  have o:∀u v g w',u∈Ab t->AP w' u v g->(∀x,x∈g->x<w'.heap.size)->LQ v u g w':=by
   intro u v g w' y E C;obtain⟨i,hi⟩:=List.mem_iff_getElem?.1 y;have:=CO hi;exact F u v g w' Zj (D.items u y) (C8 A y) E C
  have M:=Ar A;have z:=Bj t;cases t with
  |null=>
   simp only[AP]at d;obtain⟨rfl,rfl⟩:=d;exact⟨_,_,GZ _ sv w,JW G sv n L xs w e xq⟩
  |flag x=>
   simp only[AP]at d;obtain⟨rfl,rfl⟩:=d;exact⟨_,_,GZ _ sv w,JV x G sv n L xs w e xq⟩
  |num x=>
   simp only[AP]at d;obtain⟨rfl,rfl⟩:=d;exact⟨_,_,GZ _ sv w,Ky x G sv n L xs w e xq⟩
  |text x=>
   simp only[AP]at d;obtain⟨rfl,rfl⟩:=d;exact⟨_,_,GZ _ sv w,JX x G sv n L xs w e xq⟩
  |list l=>
   simp only[AP]at d;obtain⟨b,J,vs,p,rfl,m,j,q,rfl⟩:=d;obtain⟨a,c,rfl,_⟩:=j.form;simp only[Ab]at z o;exact⟨_,_,TW b sv w,Pm l vs p b a c w m j q Zj G sv n L xs e f s o⟩
  |obj ks l=>
   simp only[AP]at d;obtain⟨b,J,sk,vs,p,rfl,m,j,r,B,q,rfl⟩:=d;obtain⟨a,c,rfl,_⟩:=j.form;obtain⟨H,I,rfl,_⟩:=r.form;rw[Ao]at m r e s;simp only[Ab]at z o;exact⟨_,_,PH b sv w,MC ks l vs p b a c H I w m j r q Zj B G sv n L xs e f s o⟩
structure LN(t:Tr)(w:Wl)(sv:Vl)(w':Wl):Prop where
 chg:Chg w w' []
 ex:∃G xs,Ba w' sv 55 6 (Ag t).nodes xs/\Cr w' G (MW t) xs/\(∀b,G b->w.heap.size<=b/\b<w'.heap.size)/\(∀g,sv.ownBlock=nM g->w.heap.size<=g/\¬G g)
theorem Le{t:Tr}{v:Vl}{bs:List Nat}(a:Av t)(i:(Ag t).within=true)(d:AP w t v bs):
  ∃f args,(callMethod v EB #[nS nN 0 0]).run prog w= .ok (.enter f args) w/\Cl prog f args w fun e w'=>∃sv,e= nR sv/\LN t w sv w':=by
 have s:=Ar i;obtain⟨f,args,k,l⟩:=YJ _ t v bs w (Q8 _) a i d (AP.lt t v bs d) (fun _=>False) (nS nN 0 0) 0 [] [] ⟨Ba.nil _ _ _,rfl,fun g a=>(by cases a),fun b c=>c.elim⟩ Zj;refine⟨f,args,k,l.mono ?_⟩;rintro e w' ⟨sv,G,xs,rfl,j,m,n,o,u,p,q,r⟩;rw[Nat.zero_add]at j;refine⟨sv,rfl,n,G,xs,j,by simpa using m,fun b c=>⟨?_,q b c⟩,fun g a=>⟨?_,r g a⟩⟩
 .by_cases h:b<w.heap.size
  .exact(p b c h).elim
  .omega
 .rcases o g a with h|h
  .cases h
  .exact h
theorem L4:(prog.info? 100).map (fun i=>(i.zero,i.size,i.bytes))=nM (nM .nilIface,1,16):=Yb
theorem KX:(prog.info? 165).map (fun i=>(i.zero,i.size,i.bytes))=nM (nM (nA #[nG ⟨#[]⟩,.nilIface]),2,32):=Yb
theorem y9(h:p:=by go_enter func71,ntmps71;go_wp2;go_ret;exact⟨_,fun _=>False,rfl,rfl,by exact cg cR,fun _ h=>h.elim⟩):p:=h
theorem xk(h:p:=by
 rcases a with a|a
 .exact E b a
 .exact⟨(r b a).1,f.lt a⟩):p:=h
theorem xm(h:p:=by have:=M.o;omega):p:=h
theorem Vt:∀(k:Nat) (t:Tr) (F:Nat->Prop) (v:Vl) (w:Wl),(Ag t).nodes<=k->(Ag t).nodes<=65536->Af w F t v->(∀b,F b->b<w.heap.size)->Cl prog 71 #[nA #[v]] w (Ht t w):=by
 intro k;induction k with
 |zero=>intro t _ _ _ h;have:=Cv t;omega
 |succ k ih=>
  intro t F v w hk ax n N;have av:=Bj t
  have O:∀u v w',u∈Ab t->Af w' F u v->(∀b,F b->b<w'.heap.size)->Cl prog 71 #[nA #[v]] w' (Ht u w'):=by
   intro u v w' p aK aD;obtain⟨i,hi⟩:=List.mem_iff_getElem?.1 p;have:=CO hi;exact ih u F v w' Zj Zj aK aD
  clear ih;cases t
  case null=>
   simp only[Af]at n;subst n;have c:∀(w:Wl),(Instr.typeAssert (nF 130 (nA #[])) 90 130 true).run prog w= .ok (nT #[nA #[],.bool true]) w:=fun _=>Yb;exact y9
  case flag x=>
   simp only[Af]at n;subst n;have c:∀(w:Wl),(Instr.typeAssert (nF 131 (.bool x)) 90 130 true).run prog w= .ok (nT #[nA #[],.bool false]) w:=fun _=>Yb;have a1:∀(w:Wl),(Instr.typeAssert (nF 131 (.bool x)) 90 131 true).run prog w= .ok (nT #[.bool x,.bool true]) w:=fun _=>Yb;exact y9
  case num x=>
   simp only[Af]at n;subst n;have c:∀(w:Wl),(Instr.typeAssert (nF 135 (.float .f64 x)) 90 130 true).run prog w= .ok (nT #[nA #[],.bool false]) w:=fun _=>Yb;have a1:∀(w:Wl),(Instr.typeAssert (nF 135 (.float .f64 x)) 90 131 true).run prog w= .ok (nT #[.bool false,.bool false]) w:=fun _=>Yb;have a2:∀(w:Wl),(Instr.typeAssert (nF 135 (.float .f64 x)) 90 135 true).run prog w= .ok (nT #[.float .f64 x,.bool true]) w:=fun _=>Yb;exact y9
  case text x=>
   simp only[Af]at n;subst n;have c:∀(w:Wl),(Instr.typeAssert (nF 137 (nG x)) 90 130 true).run prog w= .ok (nT #[nA #[],.bool false]) w:=fun _=>Yb;have a1:∀(w:Wl),(Instr.typeAssert (nF 137 (nG x)) 90 131 true).run prog w= .ok (nT #[.bool false,.bool false]) w:=fun _=>Yb;have a2:∀(w:Wl),(Instr.typeAssert (nF 137 (nG x)) 90 135 true).run prog w= .ok (nT #[.float .f64 0,.bool false]) w:=fun _=>Yb;have a3:∀(w:Wl),(Instr.typeAssert (nF 137 (nG x)) 90 137 true).run prog w= .ok (nT #[nG x,.bool true]) w:=fun _=>Yb;exact y9
  case list z=>
   simp only[Af]at n;obtain⟨b,sl,q,rfl,an,_,_,_,c3,hr,hi⟩:=n;obtain⟨sa,sc,rfl,Y⟩:=hr.cell;have ab:=hi.length;simp only[Ab]at av O;have aN:q.length<=65536:=Zj;have lb:=N b an;have M:=hZ ab;clear ab;have c:∀(w:Wl),(Instr.typeAssert (nF 140 (nP (nM ⟨b,0,nN⟩))) 90 130 true).run prog w= .ok (nT #[nA #[],.bool false]) w:=fun _=>Yb;have a1:∀(w:Wl),(Instr.typeAssert (nF 140 (nP (nM ⟨b,0,nN⟩))) 90 131 true).run prog w= .ok (nT #[.bool false,.bool false]) w:=fun _=>Yb;have a2:∀(w:Wl),(Instr.typeAssert (nF 140 (nP (nM ⟨b,0,nN⟩))) 90 135 true).run prog w= .ok (nT #[.float .f64 0,.bool false]) w:=fun _=>Yb;have a3:∀(w:Wl),(Instr.typeAssert (nF 140 (nP (nM ⟨b,0,nN⟩))) 90 137 true).run prog w= .ok (nT #[nG ⟨#[]⟩,.bool false]) w:=fun _=>Yb;have a4:∀(w:Wl),(Instr.typeAssert (nF 140 (nP (nM ⟨b,0,nN⟩))) 90 140 true).run prog w= .ok (nT #[nP (nM ⟨b,0,nN⟩),.bool true]) w:=fun _=>Yb;have HI:=hZ hi;have HK:=hZ O;have D:=hZ N;have HC:=hZ Y;clear hi O N Y hr ax hk;go_enter func71,ntmps71
   go_wp2_with(first
    |(at_make;refine LF rfl _ _ _ rfl 100 .nilIface 16 underlying154 L4 _ _ _ q.length rfl rfl (by first|rfl|omega) Zj (by unfold maxLen;omega) (w.heap.size+1) Zh ?_;intro w1 W Z;have y:=((Chg.refl w []).alloc _).trans Z;have ak:=hZ W;have ah:=hZ y;have aC:=y.keeps c3;have aO:=Q6 lb y.size;clear W Z y))
   go_loopw [8,51] (fun v8 K wr=>∃(i:Nat) (J:Vl),i<=q.length/\K= nI nX i/\J=v8/\T8 w z i J wr) (fun _ K _=>q.length-(intOf K).toNat)
   case atStart=>exact⟨0,_,Zj,rfl,rfl,[],fun _=>False,ak.o,by simp[Dc],fun _ h=>h.elim,fun g o=>⟨by simp[Vl.ownBlock]at o;omega,id⟩,ah.o⟩
   case round=>
    obtain⟨i,J,aI,rfl,rfl,xs,G,f,m,E,r,d⟩:=hrel;by_cases aJ:i<q.length
    .have aq:i<z.length:=xm
     obtain⟨u,p⟩:∃u,z[i]? =nM u:=⟨_,Q9 aq⟩;obtain⟨vu,ad,H⟩:=HI.o.get i u p;obtain⟨ti,xi,rfl⟩:=H.iface;obtain⟨vb,vo,rfl,aF,ap⟩:=HC.o i _ ad;have af:=d.keeps c3;have aH:=d.keeps ap;have P:xs.length=i:=by rw[m.length,Ql];omega
     obtain⟨c,l,rfl,_⟩:=f.form;rw[P]at f r|-;have aj:=hZ (Af.kept (d.keepsF D.o) (fun _ h=>h) _ _ H);have aa:=Qi p;have HU:=hZ (HK.o u _ wr aa aj.o (fun b a=>Q6 (D.o b a) d.size));have R:=hZ f;have H2:=hZ m;have H3:=hZ E;have H4:=hZ r;have H5:=hZ d;have am:=hZ p;have ae:=hZ P;clear f m E r d p ad H aa P
     go_wp2_with(first
      |(go_at_call 71;refine HU.o.mono ?_;rintro e j ⟨Q,L,rfl,A,B,C⟩;obtain⟨au,x1,rfl⟩:=A.iface;have K2:=hZ A;have T:=hZ B;have K4:=hZ C;clear A B C)
      |(refine AM rfl _ _ _ rfl 100 .nilIface 16 underlying154 L4 rfl (nS c i l) xs ZN (by exact R.o.kept (bs:=[]) (by exact cg T.o) Zh) j.heap.size (nF au x1) ZN xp rfl (by rw[ae.o];omega) (by rw[ae.o];omega) ?_;rw[ae.o];intro g cap w7 X U V;have al:=hZ X;have S:=hZ U;have ai:=hZ V;clear X U V))
     go_roundw
     case rel=>exact⟨i+1,_,Zj,by go_num,rfl,T8.next am.o H2.o H3.o H4.o H5.o (fun g o=>R.o.lt o) K2.o T.o K4.o al.o S.o ai.o⟩
     case measure=>simp[intOf];omega
    .have ag:i=z.length:=xm
     obtain⟨c,l,rfl,_⟩:=f.form;rw[ag,Qn (Q8 _)]at m;go_wp2;go_ret;refine⟨_,fun b=>G b\/(Vl.slice c xs.length l).ownBlock=nM b,rfl, ?_,d,fun b a=> ?_⟩
     .simp only[Hm];exact⟨_,xs,rfl,f.rowAt (fun g o=> .inr o),Dc.kept (fun _ _ _=>rfl) (fun _ h=> .inl h) _ _ m⟩
     .exact xk
  case obj kk z=>
   simp only[Af]at n;obtain⟨b,aV,sl,q,rfl,an,aS,_,_,_,c3,ar,c4,hr,hi⟩:=n;obtain⟨sa,sc,rfl,Y⟩:=hr.cell;obtain⟨ka,kc,rfl,aw⟩:=ar.cell;rw[Ao]at c3 ar;have ab:=hi.length;simp only[Ab]at av O;have aN:q.length<=65536:=Zj;have lb:=N b an;have M:=hZ ab;clear ab;have c:∀(w:Wl),(Instr.typeAssert (nF 151 (nP (nM ⟨b,0,nN⟩))) 90 130 true).run prog w= .ok (nT #[nA #[],.bool false]) w:=fun _=>Yb;have a1:∀(w:Wl),(Instr.typeAssert (nF 151 (nP (nM ⟨b,0,nN⟩))) 90 131 true).run prog w= .ok (nT #[.bool false,.bool false]) w:=fun _=>Yb;have a2:∀(w:Wl),(Instr.typeAssert (nF 151 (nP (nM ⟨b,0,nN⟩))) 90 135 true).run prog w= .ok (nT #[.float .f64 0,.bool false]) w:=fun _=>Yb;have a3:∀(w:Wl),(Instr.typeAssert (nF 151 (nP (nM ⟨b,0,nN⟩))) 90 137 true).run prog w= .ok (nT #[nG ⟨#[]⟩,.bool false]) w:=fun _=>Yb;have a4:∀(w:Wl),(Instr.typeAssert (nF 151 (nP (nM ⟨b,0,nN⟩))) 90 140 true).run prog w= .ok (nT #[nP nN,.bool false]) w:=fun _=>Yb;have a5:∀(w:Wl),(Instr.typeAssert (nF 151 (nP (nM ⟨b,0,nN⟩))) 90 151 true).run prog w= .ok (nT #[nP (nM ⟨b,0,nN⟩),.bool true]) w:=fun _=>Yb;have HI:=hZ hi;have HK:=hZ O;have D:=hZ N;have HC:=hZ Y;have ay:=hZ aw;clear hi O N Y aw hr ar ax hk;go_enter func71,ntmps71
   go_wp2_with(first
    |(at_make;refine KM rfl _ _ _ rfl 165 (nA #[nG ⟨#[]⟩,.nilIface]) 2 32 underlying160 KX _ _ _ q.length rfl rfl (by first|rfl|omega) Zj (by unfold maxLen;omega) (w.heap.size+1) Zh ?_;intro w1 W Z;have y:=((Chg.refl w []).alloc _).trans Z;have ak:=hZ W;have ah:=hZ y;have aC:=y.keeps c3;have aP:=y.keeps c4;have aO:=Q6 lb y.size;clear W Z y))
   go_loopw [12,78] (fun v8 K wr=>∃(i:Nat) (J:Vl),i<=q.length/\K= nI nX i/\J=v8/\cz w kk z i J wr) (fun _ K _=>q.length-(intOf K).toNat)
   case atStart=>exact⟨0,_,Zj,rfl,rfl,[],fun _=>False,by simpa[Kp]using ak.o,by simp[Dc],fun _ h=>h.elim,fun g o=>⟨by simp[Vl.ownBlock]at o;omega,id⟩,ah.o⟩
   case round=>
    obtain⟨i,J,aI,rfl,rfl,xs,G,f,m,E,r,d⟩:=hrel;by_cases aJ:i<q.length
    .have aq:i<z.length:=xm
     obtain⟨u,p⟩:∃u,z[i]? =nM u:=⟨_,Q9 aq⟩;obtain⟨s,hs⟩:∃s,kk[i]? =nM s:=⟨_,Q9 Zj⟩;obtain⟨vu,ad,H⟩:=HI.o.get i u p;obtain⟨ti,xi,rfl⟩:=H.iface;obtain⟨vb,vo,rfl,aF,ap⟩:=HC.o i _ ad;obtain⟨kb,ko,rfl,aE,aG⟩:=ay.o i (nG s) (by simp[Ad,hs]);have af:=d.keeps c3;have aQ:=d.keeps c4;have aH:=d.keeps ap;have ao:=d.keeps aG;have P:xs.length=i:=by rw[m.length,Ql];omega
     obtain⟨c,l,rfl⟩:=f.slots;have aj:=hZ (Af.kept (d.keepsF D.o) (fun _ h=>h) _ _ H);have aa:=Qi p;have HU:=UD (∀wx,Chg wr wx []->Cl prog 71 #[nA #[nF ti xi]] wx (fun e j=>∃Q L,e= nR Q/\Hm j L u Q/\Chg wr j []/\(∀b,L b->wr.heap.size<=b/\b<j.heap.size))) fun wx hx=>(HK.o u _ wx aa (Af.kept (hx.keepsF (fun b a=>Q6 (D.o b a) d.size)) (fun _ h=>h) _ _ aj.o) (fun b a=>Q6 (D.o b a) (Q7 d.size hx.size))).mono fun e j ⟨Q,L,e1,A,B,C⟩=>⟨Q,L,e1,A,hx.trans B,fun b a=>⟨Q7 hx.size (C b a).1,(C b a).2⟩⟩;have az:=UD (b∉(Vl.slice c i l).ownBlock.toList) fun hm=>by have:=(r b (by simpa using hm)).1;omega
     have aU:=D.o kb aE;have aA:=UD (kb∉(Vl.slice c i l).ownBlock.toList) fun hm=>by have:=(r kb (by simpa using hm)).1;omega
     have R:=hZ f;have H2:=hZ m;have H3:=hZ E;have H4:=hZ r;have H5:=hZ d;have am:=hZ p;have aB:=hZ hs;have ae:=hZ P;have aT:kk.length<=65536:=xm
     have aR:i<kk.length:=Zj;clear f m E r d p hs ad H aa P;have aL:=And.intro af ao;go_wp2_with fail
     go_region_held3(fun w'=>w'.cell? ⟨b,3,nN⟩=nM (nS (nM ⟨kb,ko,nN⟩) kk.length kc)/\w'.cell? ⟨kb,ko+i,nN⟩=nM (nG s)) (first|exact aL|exact I|exact aM|exact(fun h:Chg j _ []=>⟨h.keeps I.1,h.keeps I.2⟩) y8|exact(fun h:Chg wr _ []=>⟨h.keeps af,h.keeps ao⟩) y8)
      (first
       |(go_at_call 71;refine(HU.o _ y8).mono ?_;rintro e j ⟨Q,L,rfl,A,B,C⟩;obtain⟨au,x1,rfl⟩:=A.iface;have I:=And.intro (B.keeps af) (B.keeps ao);have K2:=hZ A;have T:=hZ B;have K4:=hZ C;clear A B C)
       |(refine Bw rfl _ _ _ rfl 165 (nA #[nG ⟨#[]⟩,.nilIface]) 2 32 ZM underlying160 KX rfl (nS c i l) i _ ZN (by exact(R.o.kept T.o).kept (bs:=[]) y8 Zh) j.heap.size [nG s,nF au x1] ZN ZN (by exact Ff _ _ _) (by simp[Vl.oneCell']) Zj Zj ?_;intro g cap w7 X U V;have al:=hZ X;have S:=UD (Chg j w7 (Vl.slice c i l).ownBlock.toList) ((((Chg.refl j []).alloc _).none _).trans U);have ai:=UD ((Vl.slice c i l).ownBlock=nM g\/j.heap.size<=g) (V.imp id (fun h=>by rw[World.size_alloc]at h;omega));have aM:=And.intro ((S.o.cell (World.block_lt_of_cell? j _ I.1) az.o).trans I.1) ((S.o.cell (World.block_lt_of_cell? j _ I.2) aA.o).trans I.2);clear X U V))
     all_goals
      go_wp2_with fail;go_roundw
      case rel=>exact⟨i+1,_,Zj,by go_num,rfl,cz.next am.o aB.o H2.o H3.o H4.o H5.o (fun g o=>R.o.lt o) K2.o T.o K4.o al.o S.o ai.o⟩
      case measure=>simp[intOf];omega
    .have ag:i=z.length:=xm
     obtain⟨c,l,rfl⟩:=f.slots;rw[ag,Qn (Q8 _)]at m;rw[Qn Zj]at f;subst ag;go_wp2;go_ret;refine⟨_,fun b=>G b\/(Vl.slice c z.length l).ownBlock=nM b,rfl, ?_,d,fun b a=> ?_⟩
     .simp only[Hm];exact⟨c,l,xs,rfl,Zj,f.rowN (by rw[K0 (by rw[m.length];omega)];omega) (fun g o=> .inr o),Dc.kept (fun _ _ _=>rfl) (fun _ h=> .inl h) _ _ m⟩
     .exact xk
end
section
open _root_.Go.Proofs.Tryz
open Go Go.Shelf Go.RowKit Go.Lib Tree Ptr
variable{w:Wl}
theorem Ph(b:Nat)(w:Wl):Cl prog 18 #[.float .f64 b] w fun e w'=>e= nR (nA (AI (Fv b) (nS nN 0 0)).toArray)/\Chg w w' []:=by
 have l:=GX;have f:=UD (Ac (w.alloc (nC #[nI nX 0,.bool false,nI .u64 0,nG {data:=#[]},nI nX 0,nS nN 0 0] 55)) w.heap.size [nI nX 0,.bool false,nI .u64 0,nG {data:=#[]},nI nX 0,nS nN 0 0] 55) (Ac.new w _ _);have h:∀u∈AI (Fv b) (nS nN 0 0),u.oneCell'=true:=C0 _ _ _ _;go_enter func18,ntmps18;go_wp2_with(refine Ae rfl _ _ _ rfl w.heap.size (AI (Fv b) (nS nN 0 0)) ZN ZN 55 _ f.o ZN rfl h ?_;intro w2 j a c;have g:=hZ a;have d:=UD (Chg w w2 []) (Chg.step (b:=_) y8 c (fun i hi k=>by simp at hi;omega));clear j a c);exact bodyPost_ret (uP g.o) rfl ⟨rfl,d.o⟩
def IQ:Vl:= nS nN 0 0
def YQ(a b:Nat):List Vl:=AI (Fv f1) IQ++(AI (Fv f2) IQ++(AI (Un 2) IQ++(AI Y7 IQ++(AI (Ve [kC]) (nS (nM ⟨a,0,nN⟩) 1 1)++(AI (Ve [kA,kB]) (nS (nM ⟨b,0,nN⟩) 2 2)++[])))))
theorem As.ofBlk{g sz n:Nat}{cs:List Vl}{T:Ti}(h:Ac w g cs T)(a:cs.length=n*sz):As w (nS (nM ⟨g,0,nN⟩) n n) sz n cs:=
 ⟨_,_,rfl,Q8 _,a,fun i v b=>⟨g,0,rfl,by rw[Nat.zero_add,h.cell i];exact b⟩⟩
theorem As.nil(w:Wl)(sz:Nat):As w (nS nN 0 0) sz 0 []:=⟨nN,0,rfl,Q8 _,Zh,fun i v a=>by simp at a⟩
theorem Az.cons{s:Ap}{l:List Ap}{sk:Vl}{xs:List Vl}(h:As w sk 1 s.keys.length (Ad s.keys))(k:Az w l xs):Az w (s::l) (AI s sk++xs):=⟨sk,xs,rfl,h,k⟩
def SI(w:Wl)(e:Ending)(w':Wl):Prop:=∃g xs,e= nR (nS (nM ⟨g,0,nN⟩) 6 6)/\As w' (nS (nM ⟨g,0,nN⟩) 6 6) 6 6 xs/\Az w' Ut xs/\Chg w w' []
theorem Tc(w:Wl):Cl prog 17 #[] w (SI w):=by
 go_enter func17,ntmps17;go_wp2_with((go_at_call 18;refine(Ph _ _).mono ?_;rintro e a ⟨rfl,h⟩;(first|(have d:=UD (Chg w a []) (c.o.trans h))|(have c:=UD (Chg w a []) h));clear h));have f:Ac (a.alloc (nC #[nG {data:=#[99]}] 9)) a.heap.size (Ad [kC]) 9:=BD _ _ _ _ _ rfl rfl;have g:Ac ((a.alloc (nC #[nG {data:=#[99]}] 9)).alloc (nC #[nG {data:=#[97]},nG {data:=#[98]}] 9)) (a.heap.size+1) (Ad [kA,kB]) 9:=BD _ _ _ _ _ rfl Zh;refine bodyPost_ret (results_tmp rfl _ _ _) rfl ⟨a.heap.size+1+1,YQ a.heap.size (a.heap.size+1),rfl, ?_, ?_,by exact cg d.o⟩
 .exact As.ofBlk (T:=55) (BD _ _ _ _ _ rfl Zh) rfl
 .have b:∀w',As w' IQ 1 0 []:=fun w'=>As.nil w' 1;exact Az.cons (b _) (Az.cons (b _) (Az.cons (b _) (Az.cons (b _) (Az.cons (As.ofBlk ((f.alloc _).alloc _) rfl) (Az.cons (As.ofBlk (g.alloc _) rfl) rfl)))))
end
section
open Go Go.RowKit Tree Ptr
variable{ks:List BY}{a bs cs d f:List Nat}{l:List Tr}{vs xs:List Vl}{b c g i j n:Nat}{p:Prop}{e:Ti}{u x:Tr}{m sk sv v:Vl}{w w':Wl}
theorem Ac.setCells{T:Ti}:∀(vs:List Vl) (o:Nat) (cs:List Vl) (w:Wl),Ac w b cs T->o+vs.length<=cs.length->Ac (w.setCells b o vs) b (cs.take o++(vs++cs.drop (o+vs.length))) T
 |[],o,cs,w,h,_=>h.eq Zh
 |v::r,o,cs,w,h,d=>by
  simp only[Qj]at d;have:=Ac.setCells r (o+1) (cs.set o v) (w.setCell ⟨b,o,nN⟩ v) (h.set o v) (by rw[List.length_set];omega);refine this.eq ?_
  have a:(cs.set o v).take (o+1)=cs.take o++[v]:=by
   rw[List.take_add_one,List.getElem?_set_self Zj,List.take_set_of_le (Q8 _)];rfl
  have c:(cs.set o v).drop (o+1+r.length)=cs.drop (o+(v::r).length):=by
   rw[List.drop_set_of_lt Zj]
   congr 1
   simp only[Qj];omega
  rw[a,c,List.append_assoc];rfl
theorem Chg.setCells{a:Wl}(c:b<a.heap.size->b∈bs):∀(vs:List Vl) (o:Nat) (w:Wl),Chg a w bs->Chg a (w.setCells b o vs) bs
 |[],_,_,h=>h
 |v::r,o,w,h=>Chg.setCells c r (o+1) (w.setCell ⟨b,o,Option.none⟩ v) (h.setCell _ v c)
theorem AK.blk(h:AK w (nS (nM ⟨g,0,nN⟩) n c) e xs):∃b:List Vl,Ac w g b e/\n=xs.length/\n<=c/\c<=maxLen/\b.length=c/\b.take n=xs:=by
 rcases h.2 with⟨d,_⟩|⟨p,cap,b,a,_,m,j,k,f,i⟩
 .injection d with d;cases d
 .injection a with a o l
  injection a with a
  injection a with a
  subst a;subst l;subst o;rw[Nat.mul_one]at f i;exact⟨b.toList,by unfold Ac;simpa using m,rfl,j,k,by simpa using f,i⟩
theorem AK.ofBlk{a:List Vl}(h:Ac w g a e)(i:n=xs.length)(b:n<=c)(f:c<=maxLen)(d:a.length=c)(j:a.take n=xs):AK w (nS (nM ⟨g,0,nN⟩) n c) e xs:=by
 subst i;exact⟨Zh,.inr ⟨g,c,a.toArray,rfl,Nat.zero_le _,h,b,f,by simpa using d,by simpa using j⟩⟩
theorem xz(h:p:=by rw[List.length_insertIdx];split<;>omega):p:=h
theorem QR{a:Type}(cs rest:List a)(i:Nat)(v:a)(hi:i<=cs.length):(cs.take i++(v::(cs.drop i++rest))).take (cs.length+1)=cs.insertIdx i v:=by
 have e:cs.take i++(v::(cs.drop i++rest))=cs.insertIdx i v++rest:=by
  rw[AQ cs i hi];simp
 rw[e,List.take_append_of_le_length xz,Qn xz]
theorem xw(h:p:=by simp only[Qk,Ql,Qm,Qj,List.length_nil];omega):p:=h
theorem xy(h:p:=by rw[List.length_insertIdx_of_le_length hi]):p:=h
theorem AK.shift{cs:List Vl}(h:AK w (nS (nM ⟨g,0,nN⟩) n c) e cs)(hi:i<=n)(l:n+1<=c):
  AK ((w.setCells g (i+1) (cs.drop i)).setCells g i [v]) (nS (nM ⟨g,0,nN⟩) (n+1) c) e (cs.insertIdx i v):=by
 obtain⟨a,f,rfl,q,j,r,k⟩:=h.blk;have s:(cs.drop i).length=cs.length-i:=Qm;have o:=f.setCells (cs.drop i) (i+1) _ _ Zj;have p:=o.setCells [v] i _ _ xw;have m:a.take i=cs.take i:=by rw[<-k,List.take_take,Nat.min_eq_left hi]
 refine AK.ofBlk p xy l j ?_ ?_
 .simp only[Qk,Ql,Qm,Qj,List.length_nil];omega
 .have b:(a.take (i+1)++(cs.drop i++a.drop (i+1+(cs.drop i).length))).take i=cs.take i:=by
   rw[List.take_append_of_le_length xh,List.take_take,Nat.min_eq_left Zj,m]
  have d:(a.take (i+1)++(cs.drop i++a.drop (i+1+(cs.drop i).length))).drop (i+[v].length)=cs.drop i++a.drop (i+1+(cs.drop i).length):=by
   rw[List.drop_append_of_le_length (by rw[Ql];simp;omega),List.drop_of_length_le (by rw[Ql];simp;omega)];rfl
  rw[b,d];exact QR cs _ i v hi
theorem PQ{G:Nat}{cs a:List Vl}(hi:i<=cs.length)(m:a.length+i=G)(d:cs.length+1<=G)(f:G<=maxLen):
  AK (((w.alloc (nC (cs.take i++a).toArray e)).setCells w.heap.size i [v]).setCells w.heap.size (i+1) (cs.drop i)) (nS (nM ⟨w.heap.size,0,nN⟩) (cs.length+1) G) e (cs.insertIdx i v):=by
 have k:(cs.drop i).length=cs.length-i:=Qm;have l:(cs.take i).length=i:=xh
 have g:=Ac.new w (cs.take i++a) e;have h:=g.setCells [v] i _ _ (by simp only[Qk,Qj,List.length_nil];omega);have j:=h.setCells (cs.drop i) (i+1) _ _ xw;refine AK.ofBlk j xy d f ?_ ?_
 .simp only[Qk,Ql,Qm,Qj,List.length_nil];omega
 .have b:(cs.take i++a).take i=cs.take i:=by rw[List.take_append_of_le_length Zj,List.take_take,Nat.min_self]
  have c:((cs.take i++a).take i++([v]++(cs.take i++a).drop (i+[v].length))).take (i+1)=cs.take i++[v]:=by
   rw[b,<-List.append_assoc,List.take_append_of_le_length xA,Qn xA]
  rw[c];have:=QR cs (((cs.take i++a).take i++([v]++(cs.take i++a).drop (i+[v].length))).drop (i+1+(cs.drop i).length)) i v hi;rw[<-this,List.append_assoc];rfl
theorem AK.one(h:AK w sv e xs):sv= nS nN 0 0/\xs=[]\/∃g c,sv= nS (nM ⟨g,0,nN⟩) xs.length c/\xs.length<=c:=by
 rcases h.2 with⟨a,b⟩|⟨g,cap,i,f,_,_,d,_⟩
 .exact .inl ⟨a,List.eq_nil_of_length_eq_zero b⟩
 .exact .inr ⟨g,cap,f,d⟩
structure DJ(w:Wl)(old bs:List Nat):Prop where
 nodup:bs.Nodup
 come:∀b,b∈bs->b∈old\/w.heap.size<=b
theorem DJ.refl(h:bs.Nodup):DJ w bs bs:=⟨h,fun _ a=> .inl a⟩
theorem DJ.perm{c:List Nat}(h:DJ w c bs)(a:cs.Perm bs):DJ w c cs:=⟨a.nodup_iff.2 h.nodup,fun b d=>h.come b (a.mem_iff.1 d)⟩
theorem DJ.sub{c:List Nat}(h:DJ w c bs)(a:cs.Sublist bs):DJ w c cs:=⟨h.nodup.sublist a,fun b d=>h.come b (a.subset d)⟩
theorem DJ.trans{d:Wl}{c:List Nat}(h:DJ w c bs)(k:DJ d bs cs)(e:w.heap.size<=d.heap.size):DJ w c cs:=
 ⟨k.nodup,fun b a=>(k.come b a).elim (h.come b) fun a=> .inr (Q7 e a)⟩
theorem DJ.cons{c:List Nat}(h:DJ w c bs)(d:w.heap.size<=g)(e:g∉bs):DJ w c (g::bs):=
 ⟨List.nodup_cons.2 ⟨e,h.nodup⟩,fun b a=>by rcases Qh.1 a with rfl|a;exact .inr d;exact h.come b a⟩
theorem DJ.mono(h:DJ w a bs)(d:∀b,b∈a->b∈cs):DJ w cs bs:=⟨h.nodup,fun b c=>(h.come b c).imp (d b) id⟩
theorem DJ.back{c:Wl}(h:DJ c a bs)(e:w.heap.size<=c.heap.size):DJ w a bs:=⟨h.nodup,fun b d=>(h.come b d).imp id fun h=>Q7 e h⟩
theorem DJ.row{c:Wl}{rest:List Nat}(h:DJ w d (sv.ownBlock.toList++rest))(a:sv.ownBlock=nM g\/c.heap.size<=g)(i:w.heap.size<=c.heap.size)(e:∀b,b∈rest->b<c.heap.size):DJ w d (g::rest):=by
 rcases a with a|a
 .rw[a]at h;exact h
 .exact(h.sub (List.sublist_append_right _ _)).cons (Q7 i a) fun f=>by have:=e g f;omega
structure Sy(w:Wl)(l:List Tr)(b:Nat)(sv:Vl)(vs:List Vl)(fs:List Nat):Prop where
 blk:Ac w b [sv] 158
 lst:AK w sv 67 vs
 at_:PsAt w l vs fs
structure PS(w:Wl)(ks:List BY)(l:List Tr)(b:Nat)(sv sk:Vl)(vs:List Vl)(fs:List Nat):Prop where
 blk:Ac w b [sv,sk] 163
 lst:AK w sv 67 vs
 keys:AK w sk 9 (Ad ks)
 len:ks.length=l.length
 at_:PsAt w l vs fs
def Jn(b:Nat):Vl:= nF 155 (nP (nM ⟨b,0,nN⟩))
def IR(b:Nat):Vl:= nF 161 (nP (nM ⟨b,0,nN⟩))
theorem AP.list(h:AP w (.list l) v bs):∃b sv vs a,v=Jn b/\Sy w l b sv vs a/\bs=b::(sv.ownBlock.toList++a):=by
 simp only[AP]at h;obtain⟨b,sv,vs,a,c,d,e,f,g⟩:=h;exact⟨b,sv,vs,a,c,⟨d,e,f⟩,g⟩
theorem Sy.pat(h:Sy w l b sv vs a):AP w (.list l) (Jn b) (b::(sv.ownBlock.toList++a)):=by
 simp only[AP];exact⟨b,sv,vs,a,rfl,h.blk,h.lst,h.at_,rfl⟩
theorem AP.obj(h:AP w (.obj ks l) v bs):∃b sv sk vs a,v=IR b/\PS w ks l b sv sk vs a/\bs=b::(sv.ownBlock.toList++(sk.ownBlock.toList++a)):=by
 simp only[AP]at h;obtain⟨b,sv,sk,vs,a,c,d,e,g,i,f,j⟩:=h;exact⟨b,sv,sk,vs,a,c,⟨d,e,g,i,f⟩,j⟩
theorem PS.pat(h:PS w ks l b sv sk vs a):AP w (.obj ks l) (IR b) (b::(sv.ownBlock.toList++(sk.ownBlock.toList++a))):=by
 simp only[AP];exact⟨b,sv,sk,vs,a,rfl,h.blk,h.lst,h.keys,h.len,h.at_,rfl⟩
theorem AP.leaf{t:Tr}(h:AP w t v bs)(a:∀l,t≠ .list l)(b:∀ks l,t≠ .obj ks l):v= nF 169 (nA #[AG t])/\bs=[]:=by
 cases t with
 |list l=>exact absurd rfl (a l)
 |obj ks l=>exact absurd rfl (b ks l)
 |_=>simpa only[AP]using h
theorem Sy.insert{e:Vl}(h:Sy w l b sv vs d)(hi:i<=l.length)(q:AP w' x e f)(o:Ac w' b [nS (nM ⟨g,0,nN⟩) n c] 158)(m:AK w' (nS (nM ⟨g,0,nN⟩) n c) 67 (vs.insertIdx i e))(p:Ca d w w'):
  ∃a,Sy w' (l.insertIdx i x) b (nS (nM ⟨g,0,nN⟩) n c) (vs.insertIdx i e) a/\a.Perm (f++d):=by
 obtain⟨a,j,k⟩:=(PsAt.same _ _ _ p h.at_).insert hi q;exact⟨a,⟨o,m,j⟩,k⟩
theorem Sy.erase(h:Sy w l b sv vs d)(s:l[i]? =nM u)(q:Ac w' b [nS (nM ⟨g,0,nN⟩) n c] 158)(p:AK w' (nS (nM ⟨g,0,nN⟩) n c) 67 (vs.eraseIdx i))(r:Ca d w w'):
  ∃f a e,vs[i]? =nM f/\AP w' u f a/\Sy w' (l.eraseIdx i) b (nS (nM ⟨g,0,nN⟩) n c) (vs.eraseIdx i) e/\d.Perm (a++e):=by
 obtain⟨v,a,rest,j,k,m,o⟩:=(PsAt.same _ _ _ r h.at_).erase s;exact⟨v,a,rest,j,k,⟨q,p,m⟩,o⟩
theorem PS.insert{d f:Nat}{s:BY}{k:Vl}{e m:List Nat}(h:PS w ks l b sv sk vs e)(hi:i<=l.length)(v:AP w' x k m)(t:Ac w' b [nS (nM ⟨g,0,nN⟩) n c,nS (nM ⟨f,0,nN⟩) j d] 163)(r:AK w' (nS (nM ⟨g,0,nN⟩) n c) 67 (vs.insertIdx i k))(q:AK w' (nS (nM ⟨f,0,nN⟩) j d) 9 (Ad (ks.insertIdx i s)))(u:Ca e w w'):
  ∃a,PS w' (ks.insertIdx i s) (l.insertIdx i x) b (nS (nM ⟨g,0,nN⟩) n c) (nS (nM ⟨f,0,nN⟩) j d) (vs.insertIdx i k) a/\a.Perm (m++e):=by
 obtain⟨a,o,p⟩:=(PsAt.same _ _ _ u h.at_).insert hi v;exact⟨a,⟨t,r,q,by rw[List.length_insertIdx_of_le_length hi,List.length_insertIdx_of_le_length (by rw[h.len];exact hi),h.len],o⟩,p⟩
theorem PS.erase{d f:Nat}{e:List Nat}(h:PS w ks l b sv sk vs e)(m:l[i]? =nM u)(y:Ac w' b [nS (nM ⟨g,0,nN⟩) n c,nS (nM ⟨f,0,nN⟩) j d] 163)(x:AK w' (nS (nM ⟨g,0,nN⟩) n c) 67 (vs.eraseIdx i))(t:AK w' (nS (nM ⟨f,0,nN⟩) j d) 9 (Ad (ks.eraseIdx i)))(z:Ca e w w'):
  ∃o a k,vs[i]? =nM o/\AP w' u o a/\PS w' (ks.eraseIdx i) (l.eraseIdx i) b (nS (nM ⟨g,0,nN⟩) n c) (nS (nM ⟨f,0,nN⟩) j d) (vs.eraseIdx i) k/\e.Perm (a++k):=by
 obtain⟨v,a,rest,p,q,r,s⟩:=(PsAt.same _ _ _ z h.at_).erase m;have hi:=(Qc.1 m).1;exact⟨v,a,rest,p,q,⟨y,x,t,by rw[List.length_eraseIdx_of_lt hi,List.length_eraseIdx_of_lt (by rw[h.len];exact hi),h.len],r⟩,s⟩
theorem Sy.set(h:Sy w l b sv vs f)(H:l[i]? =nM u)(G:(d++(b::(sv.ownBlock.toList++f))).Nodup)(I:AP w x m d):
  ∃g c,sv= nS (nM ⟨g,0,nN⟩) vs.length c/\(∃O,w.cell? ⟨g,i,nN⟩=nM O)/\(∀j,w.frozen? ⟨g,j,nN⟩=false)/\
   ∃n r s,f.Perm (n++r)/\s.Perm (d++r)/\Sy (w.setCell ⟨g,i,nN⟩ m) (l.set i x) b sv (vs.set i m) s:=by
 obtain⟨v,n,rest,p,o,Q,t,C,z⟩:=h.at_.set H I;rcases h.lst.one with⟨_,rfl⟩|⟨g,c,rfl,R⟩
 .simp at o
 .obtain⟨P,B,_,K,L,M,N⟩:=h.lst.blk;have hi:=(Qc.1 o).1
  have E:g∉b::(d++f):=by
   have:(g::(b::(d++f))).Perm (d++(b::((Vl.slice (nM ⟨g,0,nN⟩) vs.length c).ownBlock.toList++f))):=by
    simp only[Vl.ownBlock,Option.toList_some,Qo,List.nil_append];refine List.Perm.trans ?_ (List.perm_middle (l₁:=d) (a:=b) (l₂:=g::f)).symm;refine List.Perm.trans (List.Perm.swap b g _) ((List.perm_middle (l₁:=d) (a:=g) (l₂:=f)).symm.cons b)
   exact(List.nodup_cons.1 (this.nodup_iff.2 G)).1
  have A:Ca (b::(d++f)) w (w.setCell ⟨g,i,nN⟩ m):=fun k F=>Below.heap_setCell _ _ _ _ (by simp only;intro e;subst e;exact E F)
  have D:∀y,y∈p->y∈b::(d++f):=fun y J=>by
   have:=z.mem_iff.1 J;simp only[Qh,Qf]at this|-;rcases this with q|q
   .exact .inr (.inl q)
   .exact .inr (.inr (t.mem_iff.2 (Qd _ q)))
  refine⟨g,c,rfl,⟨v,h.lst.cell rfl i v o⟩,fun j=>B.frozen j,n,rest,p,t,z,h.blk.same (A b Zh), ?_,PsAt.same _ _ _ (A.mono D) C⟩;exact AK.ofBlk (B.set i m) Zh K L (by simpa using M) (by rw[List.take_set,N])
theorem PS.set(h:PS w ks l b sv sk vs f)(I:l[i]? =nM u)(H:(d++(b::(sv.ownBlock.toList++(sk.ownBlock.toList++f)))).Nodup)(J:AP w x m d):
  ∃g c,sv= nS (nM ⟨g,0,nN⟩) vs.length c/\(∃O,w.cell? ⟨g,i,nN⟩=nM O)/\(∀j,w.frozen? ⟨g,j,nN⟩=false)/\
   ∃n r z,f.Perm (n++r)/\z.Perm (d++r)/\PS (w.setCell ⟨g,i,nN⟩ m) ks (l.set i x) b sv sk (vs.set i m) z:=by
 obtain⟨v,n,rest,t,o,Q,A,D,B⟩:=h.at_.set I J;rcases h.lst.one with⟨_,rfl⟩|⟨g,c,rfl,R⟩
 .simp at o
 .obtain⟨P,C,_,K,L,M,N⟩:=h.lst.blk;have hi:=(Qc.1 o).1
  have F:g∉b::(d++(sk.ownBlock.toList++f)):=by
   have:(g::(b::(d++(sk.ownBlock.toList++f)))).Perm (d++(b::((Vl.slice (nM ⟨g,0,nN⟩) vs.length c).ownBlock.toList++(sk.ownBlock.toList++f)))):=by
    simp only[Vl.ownBlock,Option.toList_some,Qo,List.nil_append];refine List.Perm.trans ?_ (List.perm_middle (l₁:=d) (a:=b) (l₂:=g::_)).symm;refine List.Perm.trans (List.Perm.swap b g _) ((List.perm_middle (l₁:=d) (a:=g) (l₂:=_)).symm.cons b)
   exact(List.nodup_cons.1 (this.nodup_iff.2 H)).1
  have p:Ca (b::(d++(sk.ownBlock.toList++f))) w (w.setCell ⟨g,i,nN⟩ m):=fun k G=>Below.heap_setCell _ _ _ _ (by simp only;intro e;subst e;exact F G)
  have E:∀y,y∈t->y∈b::(d++(sk.ownBlock.toList++f)):=fun y s=>by
   have:=B.mem_iff.1 s;simp only[Qh,Qf]at this|-;rcases this with q|q
   .exact .inr (.inl q)
   .exact .inr (.inr (.inr (A.mem_iff.2 (Qd _ q))))
  refine⟨g,c,rfl,⟨v,h.lst.cell rfl i v o⟩,fun j=>C.frozen j,n,rest,t,A,B,h.blk.same (p b Zh), ?_,h.keys.same (p.mono fun y s=>by simp only[Qh,Qf];exact .inr (.inr (.inl s))),by rw[List.length_set];exact h.len,PsAt.same _ _ _ (p.mono E) D⟩;exact AK.ofBlk (C.set i m) Zh K L (by simpa using M) (by rw[List.take_set,N])
end
end Go.Proofs.YtpdnhfkacgdocaaGreatDoor

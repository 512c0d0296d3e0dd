/- Part 12 of the proof of patchFresh_card. -/
import Derived.Shelf.Spec.SlicesInsertGrow
import Derived.Test.YtamgbmcchhmojaaGreatDoorM11
set_option maxRecDepth 100000
set_option maxHeartbeats 32000000
set_option linter.all false
namespace Go.Proofs.YtamgbmcchhmojaaGreatDoor
open Go renaming Calls->Cl,TypeId->Ti,Value->Vl,World->Wl
open Go.Value renaming agg->nA,iface->nF,int->nI,pointer->nP,slice->nS,string->nG,tuple->nT
open Go.IntKind renaming i64->nX
open Go.Ending renaming returned->nR
open Go.Obj renaming cells->nC
open Option renaming none->nN,some->nM
section
open _root_.Go.Proofs.Tryz
open Go Go.RowKit Tree Ptr
variable{p:Prop}
theorem yR(h:p:=by exact cg cR):p:=h
theorem yS(h:p:=by simpa using d):p:=h
theorem MC(ks:List BY)(l:List Tr)(vs:List Vl)(P:List Nat)(b:Nat)(a:Option Addr)(c:Nat)(k:Option Addr)(m:Nat)(w:Wl)(hB:Ac w b [nS a vs.length c,nS k ks.length m] 125)(hL:AK w (nS a vs.length c) 66 vs)(hK:AK w (nS k ks.length m) 9 (Ad ks))(hP:PsAt w l vs P)(hl:l.length<=65536)(aI:ks.length=l.length)(G:Nat->Prop)(sv:Vl)(n:Nat)(L:List Ap)(xs:List Vl)(F:Nj (b::((Vl.slice a vs.length c).ownBlock.toList++((Vl.slice k ks.length m).ownBlock.toList++P))) G sv n L xs w)(hn:n+(Ag (.obj ks l)).nodes<=4294967296)(X:∀x,x∈b::((Vl.slice a vs.length c).ownBlock.toList++((Vl.slice k ks.length m).ownBlock.toList++P))->x<w.heap.size)(IH:∀u v bu w',u∈l->AP w' u v bu->(∀x,x∈bu->x<w'.heap.size)->LQ v u bu w'):
  Cl prog 262 #[nP (nM ⟨b,0,nN⟩),sv] w (CJ G sv n (Ag (.obj ks l)).nodes (L++MW (.obj ks l)) w):=by
 have aK:=hP.length;have aD:(Ag (.obj ks l)).nodes=(Bk l).nodes+1:=by simp only[Ag,Sz.over];omega
 rw[aD]at hn|-;obtain⟨BS,Q⟩:=Ue (b::((Vl.slice a vs.length c).ownBlock.toList++((Vl.slice k ks.length m).ownBlock.toList++P)));rw[<-Q]at F X;have ay:w.cell? ⟨b,0,nN⟩=nM (nS a vs.length c):=hB.cell 0;have U:w.cell? ⟨b,1,nN⟩=nM (nS k ks.length m):=hB.cell 1;have lb:=hB.lt;have an:b∈BS:=by rw[Q];simp
 have aA:b∉sv.ownBlock.toList:=fun d=>(F.own b yS).1 an;have aE:∀x,w.heap.size<=x->x∉sv.ownBlock.toList:=fun x y d=>by have:=F.lst.lt yS;omega
 have aC:∀g,(Vl.slice k ks.length m).ownBlock=nM g->g∉sv.ownBlock.toList:=fun g i d=>(F.own g yS).1 (by rw[Q];simp[i])
 have HW:=UD (∀q,Chg w q []->Cl prog 253 #[nP (nM ⟨b,0,nN⟩),sv] q fun e D=>∃C,e= nR C/\I9 BS G sv (n+(Bk l).nodes) (L++KH l) w C D/\Chg q D sv.ownBlock.toList/\(∀g,C.ownBlock=nM g->sv.ownBlock=nM g\/q.heap.size<=g)) fun q y=>
  (I4 l vs P BS b a c q (y.keeps ay) (hL.kept y) (hP.chg y Zh) (fun x ah=>by rw[Q];simp only[Qh,Qf]at ah|-;rcases ah with h|h|h;exact .inl h;exact .inr (.inl h);exact .inr (.inr (.inr h))) (fun x ah=>Q6 (X x ah) y.size) hl G sv n L xs (F.kept y) Zj IH).mono fun e D h=>by
   obtain⟨C,he,d⟩:=I9.of F X y h;obtain⟨v2,_,_,aB,_,_,hc,ho,_⟩:=h;have:C=v2:=by rw[he]at aB;injection aB
   subst this;exact⟨C,he,d,hc,ho⟩
 have ap:=UD (∀q,Chg w q sv.ownBlock.toList->Cl prog 22 #[nS k ks.length m] q (Dm q 9 (Ad ks))) fun q y=>by
  have B:=hK.kept y aC;exact DL (fun g=>(Vl.slice k ks.length m).ownBlock=nM g) _ _ q B.toRow (Gu ks) (by rw[Ao];omega)
 have aj:=hZ aA;have al:=hZ aE;have ao:=hZ an;have aG:=hZ X;have I:=UD ((n+(Bk l).nodes+1)*72<=140737488355328/\n+(Bk l).nodes<=140737488355328) ⟨Zj,Zj⟩;clear hB hL hP F X IH aD an aA aE Q hn aK hK aC ay aI;obtain⟨M,hM⟩:=Ue ((Bk l).nodes);rw[<-hM]at HW I|-;obtain⟨N,hN⟩:=Ue (n+M);rw[<-hN]at HW I;have aH:=hZ hN;clear hN hM;go_enter func262,ntmps262;go_wp2_with fail
 go_region_held3(fun w'=>w'.cell? ⟨b,1,nN⟩=nM (nS k ks.length m)) (first|exact U|exact E|exact am|exact az|exact(fun h:Chg r _ []=>h.keeps E) yR|exact(fun h:Chg w2 _ []=>h.keeps am) yR)
  (first
   |(go_at_call 253;refine(HW.o _ (by exact cg ak.o)).mono ?_;rintro e D ⟨C,rfl,d,W,ag⟩;obtain⟨s,c1,rfl⟩:=d.slots;have av:=UD (∀g,(Vl.slice s N c1).ownBlock=nM g->(Vl.slice z (Ad ks).length A).ownBlock≠nM g) (fun g i B=>by rcases ag g i with h|h;exact al.o g (ab.o g B) (by simp[h]);have h1:=Q7 (Chg.size (a:=w2) (bs:=[]) yR) h;have h2:=ar.o.lt B;omega);have K:=UD (AK D (nS z (Ad ks).length A) 9 (Ad ks)) ((ar.o.kept (bs:=[]) yR Zh).kept W (fun g i=>al.o g (ab.o g i)));obtain⟨r,rfl⟩:=Ue D;have E:=(d.chg.cell (p:=⟨b,1,nN⟩) lb aj.o).trans U;have O:=hZ d;have aF:=hZ W;clear d W ag)
   |(go_at_call 253;refine(HW.o _ yR).mono ?_;rintro e D ⟨C,rfl,d,W,ag⟩;obtain⟨s,c1,rfl⟩:=d.slots;have am:=(d.chg.cell (p:=⟨b,1,nN⟩) lb aj.o).trans U;have ad:=hZ d;clear d W ag)
   |(go_at_call 22;refine(ap.o _ (by exact cg ad.o.chg)).mono ?_;rintro e w2 ⟨sk,rfl,H,J,V⟩;obtain⟨z,A,rfl,_⟩:=H.form;obtain⟨r,rfl⟩:=Ue w2;have O:=hZ (ad.o.kept V);have K:=hZ H;have E:=(O.o.chg.cell (p:=⟨b,1,nN⟩) lb aj.o).trans U;have ab:=UD (∀g,(Vl.slice z (Ad ks).length A).ownBlock=nM g->w.heap.size<=g) (fun g i=>Q7 ad.o.chg.size (J g i));have av:=UD (∀g,(Vl.slice s N c1).ownBlock=nM g->(Vl.slice z (Ad ks).length A).ownBlock≠nM g) (fun g i B=>by obtain⟨G1,ai,h1,_⟩:=ad.o.ex;have h2:=h1.lst.lt i;have h3:D.heap.size<=g:=J g B;omega);clear H J V)
   |(go_at_call 22;refine(ap.o _ (by exact cg ((Chg.refl w []).none _))).mono ?_;rintro e w2 ⟨sk,rfl,H,J,V⟩;obtain⟨z,A,rfl,_⟩:=H.form;have ak:=UD (Chg w w2 []) ((Chg.refl w []).drew.trans V);have ar:=hZ H;have am:=ak.o.keeps U;have ab:=UD (∀g,(Vl.slice z (Ad ks).length A).ownBlock=nM g->w.heap.size<=g) J;clear H J V)
   |(obtain⟨G1,ai,t,Y,Z⟩:=O.o.ex;(refine Bw rfl _ _ _ rfl 55 Iq 6 72 ZM underlying22 DM rfl (nS s N c1) N ai ZN (by exact t.lst.kept (bs:=[]) yR Zh) r.heap.size (AI ⟨6,false,0,Dz,0,ks⟩ (nS z (Ad ks).length A)) ZN ZN (by exact Ff _ _ _) (C0 _ _ _ _) I.o.1 I.o.2 ?_);intro g cap w3 T R S;have au:=hZ T;have aa:=UD (Chg r w3 (Vl.slice s N c1).ownBlock.toList) ((((Chg.refl r []).alloc _).none _).trans R);have aq:=UD ((Vl.slice s N c1).ownBlock=nM g\/r.heap.size<=g) (S.imp id (fun h=>by rw[World.size_alloc]at h;omega));have ae:=hZ t;have aw:=hZ Y;have ax:=hZ Z;have az:w3.cell? ⟨b,1,nN⟩=nM (nS k ks.length m):=(aa.o.cell (World.block_lt_of_cell? r _ E) (fun d=>(t.own b yS).1 ao.o)).trans E;clear T R S t Y Z)
   |(obtain⟨G1,ai,t,Y,Z⟩:=O.o.ex;(refine Bw rfl _ _ _ rfl 55 Iq 6 72 ZM underlying22 DM rfl (nS s N c1) N ai ZN (by exact t.lst.kept (bs:=[]) yR Zh) w2.heap.size (AI ⟨6,false,0,Dz,0,ks⟩ (nS z (Ad ks).length A)) ZN ZN (by intro j v hv;exact(aF.o.cell (p:=⟨w2.heap.size,j,nN⟩) Zh (al.o _ ak.o.size)).trans (Ff _ _ _ j v hv)) (C0 _ _ _ _) I.o.1 I.o.2 ?_);intro g cap w3 T R S;have au:=hZ T;have aa:=UD (Chg r w3 (Vl.slice s N c1).ownBlock.toList) (R);have aq:=UD ((Vl.slice s N c1).ownBlock=nM g\/r.heap.size<=g) (S.imp id (fun h=>Nat.le_of_eq h.symm));have ae:=hZ t;have aw:=hZ Y;have ax:=hZ Z;have az:w3.cell? ⟨b,1,nN⟩=nM (nS k ks.length m):=(aa.o.cell (World.block_lt_of_cell? r _ E) (fun d=>(t.own b yS).1 ao.o)).trans E;clear T R S t Y Z))
 all_goals
  go_wp2_with fail;go_ret;have e:=aH.o;subst e;rw[YT,<-List.append_assoc];have hs:(Aa (.obj ks l)).toI=⟨6,false,0,Dz,0,ks⟩:=rfl;rw[hs];refine I9.put (G2:=fun b=>G1 b\/(Vl.slice z (Ad ks).length A).ownBlock=nM b) O.o aG.o ae.o aw.o ax.o au.o aa.o aq.o ?_ ?_ (fun _ h=> .inl h) (fun b h hl=>h.resolve_right fun B=> ?_) (fun b h=> ?_) (fun g i h=> ?_)
  .have:=K.o.toK;rw[Ao]at this|-;exact this
  .intro b o n c e;injection e with e1
   subst e1;right
   obtain⟨a',c',e2,h⟩:=K.o.form;injection e2 with e2
   by_cases aJ:Ad ks=[]
   .have f:=K.o.2;rcases f with⟨f,_⟩|⟨g',aL,aM,f,_⟩
    .injection f with f;cases f
    .injection f with f;injection f with f;injection f with f h1;subst f;rfl
   .obtain⟨g',af⟩:=h aJ;rw[<-e2]at af;injection af with af
    injection af with f h1
    subst f;rfl
  .have:=ab.o b B;omega
  .rcases h with h|h
   .exact ae.o.ltG b h
   .exact K.o.lt h
  .rcases h with h|h
   .exact(ae.o.own g i).2 h
   .exact av.o g i h
theorem yV(h:p:=by simpa[Ag]using f):p:=h
theorem YJ:∀(k:Nat) (t:Tr) (v:Vl) (bs:List Nat) (w:Wl),(Ag t).nodes<=k->Av t->(Ag t).within=true->AP w t v bs->(∀x,x∈bs->x<w.heap.size)->LQ v t bs w:=by
 intro k;induction k with
 |zero=>intro t _ _ _ h;have:=Cv t;omega
 |succ k F=>
  intro t v bs w K D A d s G sv n L xs e f
  have o:∀u v g w',u∈Ab t->AP w' u v g->(∀x,x∈g->x<w'.heap.size)->LQ v u g w':=by
   intro u v g w' y E C;obtain⟨i,hi⟩:=List.mem_iff_getElem?.1 y;have:=CO hi;exact F u v g w' Zj (D.items u y) (C8 A y) E C
  have M:=Ar A;have z:=Bj t;cases t with
  |null=>
   simp only[AP]at d;obtain⟨rfl,rfl⟩:=d;exact⟨_,_,GZ _ sv w,JW G sv n L xs w e yV⟩
  |flag x=>
   simp only[AP]at d;obtain⟨rfl,rfl⟩:=d;exact⟨_,_,GZ _ sv w,JV x G sv n L xs w e yV⟩
  |num x=>
   simp only[AP]at d;obtain⟨rfl,rfl⟩:=d;exact⟨_,_,GZ _ sv w,Ky x G sv n L xs w e yV⟩
  |text x=>
   simp only[AP]at d;obtain⟨rfl,rfl⟩:=d;exact⟨_,_,GZ _ sv w,JX x G sv n L xs w e yV⟩
  |list l=>
   simp only[AP]at d;obtain⟨b,J,vs,p,rfl,m,j,q,rfl⟩:=d;obtain⟨a,c,rfl,_⟩:=j.form;simp only[Ab]at z o;exact⟨_,_,TW b sv w,Pm l vs p b a c w m j q Zj G sv n L xs e f s o⟩
  |obj ks l=>
   simp only[AP]at d;obtain⟨b,J,sk,vs,p,rfl,m,j,r,B,q,rfl⟩:=d;obtain⟨a,c,rfl,_⟩:=j.form;obtain⟨H,I,rfl,_⟩:=r.form;rw[Ao]at m r e s;simp only[Ab]at z o;exact⟨_,_,PH b sv w,MC ks l vs p b a c H I w m j r q Zj B G sv n L xs e f s o⟩
structure LN(t:Tr)(w:Wl)(sv:Vl)(w':Wl):Prop where
 chg:Chg w w' []
 ex:∃G xs,Ba w' sv 55 6 (Ag t).nodes xs/\Cr w' G (MW t) xs/\(∀b,G b->w.heap.size<=b/\b<w'.heap.size)/\(∀g,sv.ownBlock=nM g->w.heap.size<=g/\¬G g)
theorem Le{t:Tr}{v:Vl}{bs:List Nat}{w:Wl}(a:Av t)(i:(Ag t).within=true)(d:AP w t v bs):
  ∃f args,(callMethod v EB #[nS nN 0 0]).run prog w= .ok (.enter f args) w/\Cl prog f args w fun e w'=>∃sv,e= nR sv/\LN t w sv w':=by
 have s:=Ar i;obtain⟨f,args,k,l⟩:=YJ _ t v bs w (Q8 _) a i d (AP.lt t v bs d) (fun _=>False) (nS nN 0 0) 0 [] [] ⟨Ba.nil _ _ _,rfl,fun g a=>(by cases a),fun b c=>c.elim⟩ Zj;refine⟨f,args,k,l.mono ?_⟩;rintro e w' ⟨sv,G,xs,rfl,j,m,n,o,u,p,q,r⟩;rw[Nat.zero_add]at j;refine⟨sv,rfl,n,G,xs,j,by simpa using m,fun b c=>⟨?_,q b c⟩,fun g a=>⟨?_,r g a⟩⟩
 .by_cases h:b<w.heap.size
  .exact(p b c h).elim
  .omega
 .rcases o g a with h|h
  .cases h
  .exact h
theorem L4:(prog.info? 95).map (fun i=>(i.zero,i.size,i.bytes))=nM (nM .nilIface,1,16):=Yb
theorem KX:(prog.info? 151).map (fun i=>(i.zero,i.size,i.bytes))=nM (nM (nA #[nG ⟨#[]⟩,.nilIface]),2,32):=Yb
theorem yQ(h:p:=by go_enter func54,ntmps54;go_wp2;go_ret;exact⟨_,fun _=>False,rfl,rfl,by exact cg cR,fun _ h=>h.elim⟩):p:=h
theorem yT(h:p:=by
 rcases a with a|a
 .exact E b a
 .exact⟨(r b a).1,f.lt a⟩):p:=h
theorem yU(h:p:=by have:=M.o;omega):p:=h
theorem Vt:∀(k:Nat) (t:Tr) (F:Nat->Prop) (v:Vl) (w:Wl),(Ag t).nodes<=k->(Ag t).nodes<=65536->Af w F t v->(∀b,F b->b<w.heap.size)->Cl prog 54 #[nA #[v]] w (Ht t w):=by
 intro k;induction k with
 |zero=>intro t _ _ _ h;have:=Cv t;omega
 |succ k ih=>
  intro t F v w hk ax n N;have av:=Bj t
  have O:∀u v w',u∈Ab t->Af w' F u v->(∀b,F b->b<w'.heap.size)->Cl prog 54 #[nA #[v]] w' (Ht u w'):=by
   intro u v w' p aK aD;obtain⟨i,hi⟩:=List.mem_iff_getElem?.1 p;have:=CO hi;exact ih u F v w' Zj Zj aK aD
  clear ih;cases t
  case null=>
   simp only[Af]at n;subst n;have c:∀(w:Wl),(Instr.typeAssert (nF 159 (nA #[])) 86 159 true).run prog w= .ok (nT #[nA #[],.bool true]) w:=fun _=>Yb;exact yQ
  case flag x=>
   simp only[Af]at n;subst n;have c:∀(w:Wl),(Instr.typeAssert (nF 160 (.bool x)) 86 159 true).run prog w= .ok (nT #[nA #[],.bool false]) w:=fun _=>Yb;have a1:∀(w:Wl),(Instr.typeAssert (nF 160 (.bool x)) 86 160 true).run prog w= .ok (nT #[.bool x,.bool true]) w:=fun _=>Yb;exact yQ
  case num x=>
   simp only[Af]at n;subst n;have c:∀(w:Wl),(Instr.typeAssert (nF 164 (.float .f64 x)) 86 159 true).run prog w= .ok (nT #[nA #[],.bool false]) w:=fun _=>Yb;have a1:∀(w:Wl),(Instr.typeAssert (nF 164 (.float .f64 x)) 86 160 true).run prog w= .ok (nT #[.bool false,.bool false]) w:=fun _=>Yb;have a2:∀(w:Wl),(Instr.typeAssert (nF 164 (.float .f64 x)) 86 164 true).run prog w= .ok (nT #[.float .f64 x,.bool true]) w:=fun _=>Yb;exact yQ
  case text x=>
   simp only[Af]at n;subst n;have c:∀(w:Wl),(Instr.typeAssert (nF 166 (nG x)) 86 159 true).run prog w= .ok (nT #[nA #[],.bool false]) w:=fun _=>Yb;have a1:∀(w:Wl),(Instr.typeAssert (nF 166 (nG x)) 86 160 true).run prog w= .ok (nT #[.bool false,.bool false]) w:=fun _=>Yb;have a2:∀(w:Wl),(Instr.typeAssert (nF 166 (nG x)) 86 164 true).run prog w= .ok (nT #[.float .f64 0,.bool false]) w:=fun _=>Yb;have a3:∀(w:Wl),(Instr.typeAssert (nF 166 (nG x)) 86 166 true).run prog w= .ok (nT #[nG x,.bool true]) w:=fun _=>Yb;exact yQ
  case list z=>
   simp only[Af]at n;obtain⟨b,sl,q,rfl,an,_,_,_,c3,hr,hi⟩:=n;obtain⟨sa,sc,rfl,Y⟩:=hr.cell;have ab:=hi.length;simp only[Ab]at av O;have aN:q.length<=65536:=Zj;have lb:=N b an;have M:=hZ ab;clear ab;have c:∀(w:Wl),(Instr.typeAssert (nF 141 (nP (nM ⟨b,0,nN⟩))) 86 159 true).run prog w= .ok (nT #[nA #[],.bool false]) w:=fun _=>Yb;have a1:∀(w:Wl),(Instr.typeAssert (nF 141 (nP (nM ⟨b,0,nN⟩))) 86 160 true).run prog w= .ok (nT #[.bool false,.bool false]) w:=fun _=>Yb;have a2:∀(w:Wl),(Instr.typeAssert (nF 141 (nP (nM ⟨b,0,nN⟩))) 86 164 true).run prog w= .ok (nT #[.float .f64 0,.bool false]) w:=fun _=>Yb;have a3:∀(w:Wl),(Instr.typeAssert (nF 141 (nP (nM ⟨b,0,nN⟩))) 86 166 true).run prog w= .ok (nT #[nG ⟨#[]⟩,.bool false]) w:=fun _=>Yb;have a4:∀(w:Wl),(Instr.typeAssert (nF 141 (nP (nM ⟨b,0,nN⟩))) 86 141 true).run prog w= .ok (nT #[nP (nM ⟨b,0,nN⟩),.bool true]) w:=fun _=>Yb;have HI:=hZ hi;have HK:=hZ O;have D:=hZ N;have HC:=hZ Y;clear hi O N Y hr ax hk;go_enter func54,ntmps54
   go_wp2_with(first
    |(at_make;refine LF rfl _ _ _ rfl 95 .nilIface 16 underlying92 L4 _ _ _ q.length rfl rfl (by first|rfl|omega) Zj (by unfold maxLen;omega) (w.heap.size+1) Zh ?_;intro w1 W Z;have y:=((Chg.refl w []).alloc _).trans Z;have ak:=hZ W;have ah:=hZ y;have aC:=y.keeps c3;have aO:=Q6 lb y.size;clear W Z y))
   go_loopw [8,51] (fun v8 K wr=>∃(i:Nat) (J:Vl),i<=q.length/\K= nI nX i/\J=v8/\T8 w z i J wr) (fun _ K _=>q.length-(intOf K).toNat)
   case atStart=>exact⟨0,_,Zj,rfl,rfl,[],fun _=>False,ak.o,by simp[Dc],fun _ h=>h.elim,fun g o=>⟨by simp[Vl.ownBlock]at o;omega,id⟩,ah.o⟩
   case round=>
    obtain⟨i,J,aI,rfl,rfl,xs,G,f,m,E,r,d⟩:=hrel;by_cases aJ:i<q.length
    .have aq:i<z.length:=yU
     obtain⟨u,p⟩:∃u,z[i]? =nM u:=⟨_,Q9 aq⟩;obtain⟨vu,ad,H⟩:=HI.o.get i u p;obtain⟨ti,xi,rfl⟩:=H.iface;obtain⟨vb,vo,rfl,aF,ap⟩:=HC.o i _ ad;have af:=d.keeps c3;have aH:=d.keeps ap;have P:xs.length=i:=by rw[m.length,Ql];omega
     obtain⟨c,l,rfl,_⟩:=f.form;rw[P]at f r|-;have aj:=hZ (Af.kept (d.keepsF D.o) (fun _ h=>h) _ _ H);have aa:=Qi p;have HU:=hZ (HK.o u _ wr aa aj.o (fun b a=>Q6 (D.o b a) d.size));have R:=hZ f;have H2:=hZ m;have H3:=hZ E;have H4:=hZ r;have H5:=hZ d;have am:=hZ p;have ae:=hZ P;clear f m E r d p ad H aa P
     go_wp2_with(first
      |(go_at_call 54;refine HU.o.mono ?_;rintro e j ⟨Q,L,rfl,A,B,C⟩;obtain⟨au,x1,rfl⟩:=A.iface;have K2:=hZ A;have T:=hZ B;have K4:=hZ C;clear A B C)
      |(refine AM rfl _ _ _ rfl 95 .nilIface 16 underlying92 L4 rfl (nS c i l) xs ZN (by exact R.o.kept (bs:=[]) (by exact cg T.o) Zh) j.heap.size (nF au x1) ZN (by exact Bx rfl _ _) rfl (by rw[ae.o];omega) (by rw[ae.o];omega) ?_;rw[ae.o];intro g cap w7 X U V;have al:=hZ X;have S:=hZ U;have ai:=hZ V;clear X U V))
     go_roundw
     case rel=>exact⟨i+1,_,Zj,by go_num,rfl,T8.next am.o H2.o H3.o H4.o H5.o (fun g o=>R.o.lt o) K2.o T.o K4.o al.o S.o ai.o⟩
     case measure=>simp[intOf];omega
    .have ag:i=z.length:=yU
     obtain⟨c,l,rfl,_⟩:=f.form;rw[ag,Qn (Q8 _)]at m;go_wp2;go_ret;refine⟨_,fun b=>G b\/(Vl.slice c xs.length l).ownBlock=nM b,rfl, ?_,d,fun b a=> ?_⟩
     .simp only[Hm];exact⟨_,xs,rfl,f.rowAt (fun g o=> .inr o),Dc.kept (fun _ _ _=>rfl) (fun _ h=> .inl h) _ _ m⟩
     .exact yT
  case obj kk z=>
   simp only[Af]at n;obtain⟨b,aV,sl,q,rfl,an,aS,_,_,_,c3,ar,c4,hr,hi⟩:=n;obtain⟨sa,sc,rfl,Y⟩:=hr.cell;obtain⟨ka,kc,rfl,aw⟩:=ar.cell;rw[Ao]at c3 ar;have ab:=hi.length;simp only[Ab]at av O;have aN:q.length<=65536:=Zj;have lb:=N b an;have M:=hZ ab;clear ab;have c:∀(w:Wl),(Instr.typeAssert (nF 142 (nP (nM ⟨b,0,nN⟩))) 86 159 true).run prog w= .ok (nT #[nA #[],.bool false]) w:=fun _=>Yb;have a1:∀(w:Wl),(Instr.typeAssert (nF 142 (nP (nM ⟨b,0,nN⟩))) 86 160 true).run prog w= .ok (nT #[.bool false,.bool false]) w:=fun _=>Yb;have a2:∀(w:Wl),(Instr.typeAssert (nF 142 (nP (nM ⟨b,0,nN⟩))) 86 164 true).run prog w= .ok (nT #[.float .f64 0,.bool false]) w:=fun _=>Yb;have a3:∀(w:Wl),(Instr.typeAssert (nF 142 (nP (nM ⟨b,0,nN⟩))) 86 166 true).run prog w= .ok (nT #[nG ⟨#[]⟩,.bool false]) w:=fun _=>Yb;have a4:∀(w:Wl),(Instr.typeAssert (nF 142 (nP (nM ⟨b,0,nN⟩))) 86 141 true).run prog w= .ok (nT #[nP nN,.bool false]) w:=fun _=>Yb;have a5:∀(w:Wl),(Instr.typeAssert (nF 142 (nP (nM ⟨b,0,nN⟩))) 86 142 true).run prog w= .ok (nT #[nP (nM ⟨b,0,nN⟩),.bool true]) w:=fun _=>Yb;have HI:=hZ hi;have HK:=hZ O;have D:=hZ N;have HC:=hZ Y;have ay:=hZ aw;clear hi O N Y aw hr ar ax hk;go_enter func54,ntmps54
   go_wp2_with(first
    |(at_make;refine KM rfl _ _ _ rfl 151 (nA #[nG ⟨#[]⟩,.nilIface]) 2 32 underlying100 KX _ _ _ q.length rfl rfl (by first|rfl|omega) Zj (by unfold maxLen;omega) (w.heap.size+1) Zh ?_;intro w1 W Z;have y:=((Chg.refl w []).alloc _).trans Z;have ak:=hZ W;have ah:=hZ y;have aC:=y.keeps c3;have aP:=y.keeps c4;have aO:=Q6 lb y.size;clear W Z y))
   go_loopw [12,78] (fun v8 K wr=>∃(i:Nat) (J:Vl),i<=q.length/\K= nI nX i/\J=v8/\cz w kk z i J wr) (fun _ K _=>q.length-(intOf K).toNat)
   case atStart=>exact⟨0,_,Zj,rfl,rfl,[],fun _=>False,by simpa[Kp]using ak.o,by simp[Dc],fun _ h=>h.elim,fun g o=>⟨by simp[Vl.ownBlock]at o;omega,id⟩,ah.o⟩
   case round=>
    obtain⟨i,J,aI,rfl,rfl,xs,G,f,m,E,r,d⟩:=hrel;by_cases aJ:i<q.length
    .have aq:i<z.length:=yU
     obtain⟨u,p⟩:∃u,z[i]? =nM u:=⟨_,Q9 aq⟩;obtain⟨s,hs⟩:∃s,kk[i]? =nM s:=⟨_,Q9 Zj⟩;obtain⟨vu,ad,H⟩:=HI.o.get i u p;obtain⟨ti,xi,rfl⟩:=H.iface;obtain⟨vb,vo,rfl,aF,ap⟩:=HC.o i _ ad;obtain⟨kb,ko,rfl,aE,aG⟩:=ay.o i (nG s) (by simp[Ad,hs]);have af:=d.keeps c3;have aQ:=d.keeps c4;have aH:=d.keeps ap;have ao:=d.keeps aG;have P:xs.length=i:=by rw[m.length,Ql];omega
     obtain⟨c,l,rfl⟩:=f.slots;have aj:=hZ (Af.kept (d.keepsF D.o) (fun _ h=>h) _ _ H);have aa:=Qi p;have HU:=UD (∀wx,Chg wr wx []->Cl prog 54 #[nA #[nF ti xi]] wx (fun e j=>∃Q L,e= nR Q/\Hm j L u Q/\Chg wr j []/\(∀b,L b->wr.heap.size<=b/\b<j.heap.size))) fun wx hx=>(HK.o u _ wx aa (Af.kept (hx.keepsF (fun b a=>Q6 (D.o b a) d.size)) (fun _ h=>h) _ _ aj.o) (fun b a=>Q6 (D.o b a) (Q7 d.size hx.size))).mono fun e j ⟨Q,L,e1,A,B,C⟩=>⟨Q,L,e1,A,hx.trans B,fun b a=>⟨Q7 hx.size (C b a).1,(C b a).2⟩⟩;have az:=UD (b∉(Vl.slice c i l).ownBlock.toList) fun hm=>by have:=(r b (by simpa using hm)).1;omega
     have aU:=D.o kb aE;have aA:=UD (kb∉(Vl.slice c i l).ownBlock.toList) fun hm=>by have:=(r kb (by simpa using hm)).1;omega
     have R:=hZ f;have H2:=hZ m;have H3:=hZ E;have H4:=hZ r;have H5:=hZ d;have am:=hZ p;have aB:=hZ hs;have ae:=hZ P;have aT:kk.length<=65536:=yU
     have aR:i<kk.length:=Zj;clear f m E r d p hs ad H aa P;have aL:=And.intro af ao;go_wp2_with fail
     go_region_held3(fun w'=>w'.cell? ⟨b,3,nN⟩=nM (nS (nM ⟨kb,ko,nN⟩) kk.length kc)/\w'.cell? ⟨kb,ko+i,nN⟩=nM (nG s)) (first|exact aL|exact I|exact aM|exact(fun h:Chg j _ []=>⟨h.keeps I.1,h.keeps I.2⟩) yR|exact(fun h:Chg wr _ []=>⟨h.keeps af,h.keeps ao⟩) yR)
      (first
       |(go_at_call 54;refine(HU.o _ yR).mono ?_;rintro e j ⟨Q,L,rfl,A,B,C⟩;obtain⟨au,x1,rfl⟩:=A.iface;have I:=And.intro (B.keeps af) (B.keeps ao);have K2:=hZ A;have T:=hZ B;have K4:=hZ C;clear A B C)
       |(refine Bw rfl _ _ _ rfl 151 (nA #[nG ⟨#[]⟩,.nilIface]) 2 32 ZM underlying100 KX rfl (nS c i l) i _ ZN (by exact(R.o.kept T.o).kept (bs:=[]) yR Zh) j.heap.size [nG s,nF au x1] ZN ZN (by exact Ff _ _ _) (by simp[Vl.oneCell']) Zj Zj ?_;intro g cap w7 X U V;have al:=hZ X;have S:=UD (Chg j w7 (Vl.slice c i l).ownBlock.toList) ((((Chg.refl j []).alloc _).none _).trans U);have ai:=UD ((Vl.slice c i l).ownBlock=nM g\/j.heap.size<=g) (V.imp id (fun h=>by rw[World.size_alloc]at h;omega));have aM:=And.intro ((S.o.cell (World.block_lt_of_cell? j _ I.1) az.o).trans I.1) ((S.o.cell (World.block_lt_of_cell? j _ I.2) aA.o).trans I.2);clear X U V))
     all_goals
      go_wp2_with fail;go_roundw
      case rel=>exact⟨i+1,_,Zj,by go_num,rfl,cz.next am.o aB.o H2.o H3.o H4.o H5.o (fun g o=>R.o.lt o) K2.o T.o K4.o al.o S.o ai.o⟩
      case measure=>simp[intOf];omega
    .have ag:i=z.length:=yU
     obtain⟨c,l,rfl⟩:=f.slots;rw[ag,Qn (Q8 _)]at m;rw[Qn Zj]at f;subst ag;go_wp2;go_ret;refine⟨_,fun b=>G b\/(Vl.slice c z.length l).ownBlock=nM b,rfl, ?_,d,fun b a=> ?_⟩
     .simp only[Hm];exact⟨c,l,xs,rfl,Zj,f.rowN (by rw[K0 (by rw[m.length];omega)];omega) (fun g o=> .inr o),Dc.kept (fun _ _ _=>rfl) (fun _ h=> .inl h) _ _ m⟩
     .exact yT
end
section
open _root_.Go.Proofs.Tryz
open Go Go.Shelf Go.RowKit Go.Lib Tree Ptr
variable{w:Wl}
theorem Ph(b:Nat)(w:Wl):Cl prog 18 #[.float .f64 b] w fun e w'=>e= nR (nA (AI (Fv b) (nS nN 0 0)).toArray)/\Chg w w' []:=by
 have l:=GX;have f:=UD (Ac (w.alloc (nC #[nI nX 0,.bool false,nI .u64 0,nG {data:=#[]},nI nX 0,nS nN 0 0] 55)) w.heap.size [nI nX 0,.bool false,nI .u64 0,nG {data:=#[]},nI nX 0,nS nN 0 0] 55) (Ac.new w _ _);have h:∀u∈AI (Fv b) (nS nN 0 0),u.oneCell'=true:=C0 _ _ _ _;go_enter func18,ntmps18;go_wp2_with(refine Ae rfl _ _ _ rfl w.heap.size (AI (Fv b) (nS nN 0 0)) ZN ZN 55 _ f.o ZN rfl h ?_;intro w2 j a c;have g:=hZ a;have d:=UD (Chg w w2 []) (Chg.step (b:=_) yR c (fun i hi k=>by simp at hi;omega));clear j a c);exact bodyPost_ret (uP g.o) rfl ⟨rfl,d.o⟩
def IQ:Vl:= nS nN 0 0
def YQ(a b:Nat):List Vl:=AI (Fv f1) IQ++(AI (Fv f2) IQ++(AI (Un 2) IQ++(AI Y7 IQ++(AI (Ve [kC]) (nS (nM ⟨a,0,nN⟩) 1 1)++(AI (Ve [kA,kB]) (nS (nM ⟨b,0,nN⟩) 2 2)++[])))))
theorem As.ofBlk{g sz n:Nat}{cs:List Vl}{T:Ti}(h:Ac w g cs T)(a:cs.length=n*sz):As w (nS (nM ⟨g,0,nN⟩) n n) sz n cs:=
 ⟨_,_,rfl,Q8 _,a,fun i v b=>⟨g,0,rfl,by rw[Nat.zero_add,h.cell i];exact b⟩⟩
theorem As.nil(w:Wl)(sz:Nat):As w (nS nN 0 0) sz 0 []:=⟨nN,0,rfl,Q8 _,Zh,fun i v a=>by simp at a⟩
theorem Az.cons{s:Ap}{l:List Ap}{sk:Vl}{xs:List Vl}(h:As w sk 1 s.keys.length (Ad s.keys))(k:Az w l xs):Az w (s::l) (AI s sk++xs):=⟨sk,xs,rfl,h,k⟩
def SI(w:Wl)(e:Ending)(w':Wl):Prop:=∃g xs,e= nR (nS (nM ⟨g,0,nN⟩) 6 6)/\As w' (nS (nM ⟨g,0,nN⟩) 6 6) 6 6 xs/\Az w' Ut xs/\Chg w w' []
theorem Tc(w:Wl):Cl prog 17 #[] w (SI w):=by
 go_enter func17,ntmps17;go_wp2_with((go_at_call 18;refine(Ph _ _).mono ?_;rintro e a ⟨rfl,h⟩;(first|(have d:=UD (Chg w a []) (c.o.trans h))|(have c:=UD (Chg w a []) h));clear h));have f:Ac (a.alloc (nC #[nG {data:=#[99]}] 9)) a.heap.size (Ad [kC]) 9:=BD _ _ _ _ _ rfl rfl;have g:Ac ((a.alloc (nC #[nG {data:=#[99]}] 9)).alloc (nC #[nG {data:=#[97]},nG {data:=#[98]}] 9)) (a.heap.size+1) (Ad [kA,kB]) 9:=BD _ _ _ _ _ rfl Zh;refine bodyPost_ret (results_tmp rfl _ _ _) rfl ⟨a.heap.size+1+1,YQ a.heap.size (a.heap.size+1),rfl, ?_, ?_,by exact cg d.o⟩
 .exact As.ofBlk (T:=55) (BD _ _ _ _ _ rfl Zh) rfl
 .have b:∀w',As w' IQ 1 0 []:=fun w'=>As.nil w' 1;exact Az.cons (b _) (Az.cons (b _) (Az.cons (b _) (Az.cons (b _) (Az.cons (As.ofBlk ((f.alloc _).alloc _) rfl) (Az.cons (As.ofBlk (g.alloc _) rfl) rfl)))))
end
section
open Go Go.RowKit Tree Ptr
variable{ks:List BY}{a bs cs d f:List Nat}{l:List Tr}{vs xs:List Vl}{b c g i j n:Nat}{p:Prop}{e:Ti}{u x:Tr}{m sk sv v:Vl}{w w':Wl}
theorem Ac.setCells{T:Ti}:∀(vs:List Vl) (o:Nat) (cs:List Vl) (w:Wl),Ac w b cs T->o+vs.length<=cs.length->Ac (w.setCells b o vs) b (cs.take o++(vs++cs.drop (o+vs.length))) T
 |[],o,cs,w,h,_=>h.eq Zh
 |v::r,o,cs,w,h,d=>by
  simp only[Qj]at d;have:=Ac.setCells r (o+1) (cs.set o v) (w.setCell ⟨b,o,nN⟩ v) (h.set o v) (by rw[List.length_set];omega);refine this.eq ?_
  have a:(cs.set o v).take (o+1)=cs.take o++[v]:=by
   rw[List.take_add_one,List.getElem?_set_self Zj,List.take_set_of_le (Q8 _)];rfl
  have c:(cs.set o v).drop (o+1+r.length)=cs.drop (o+(v::r).length):=by
   rw[List.drop_set_of_lt Zj]
   congr 1
   simp only[Qj];omega
  rw[a,c,List.append_assoc];rfl
theorem Chg.setCells{a:Wl}(c:b<a.heap.size->b∈bs):∀(vs:List Vl) (o:Nat) (w:Wl),Chg a w bs->Chg a (w.setCells b o vs) bs
 |[],_,_,h=>h
 |v::r,o,w,h=>Chg.setCells c r (o+1) (w.setCell ⟨b,o,Option.none⟩ v) (h.setCell _ v c)
theorem AK.blk(h:AK w (nS (nM ⟨g,0,nN⟩) n c) e xs):∃b:List Vl,Ac w g b e/\n=xs.length/\n<=c/\c<=maxLen/\b.length=c/\b.take n=xs:=by
 rcases h.2 with⟨d,_⟩|⟨p,cap,b,a,_,m,j,k,f,i⟩
 .injection d with d;cases d
 .injection a with a o l
  injection a with a
  injection a with a
  subst a;subst l;subst o;rw[Nat.mul_one]at f i;exact⟨b.toList,by unfold Ac;simpa using m,rfl,j,k,by simpa using f,i⟩
theorem AK.ofBlk{a:List Vl}(h:Ac w g a e)(i:n=xs.length)(b:n<=c)(f:c<=maxLen)(d:a.length=c)(j:a.take n=xs):AK w (nS (nM ⟨g,0,nN⟩) n c) e xs:=by
 subst i;exact⟨Zh,.inr ⟨g,c,a.toArray,rfl,Nat.zero_le _,h,b,f,by simpa using d,by simpa using j⟩⟩
theorem yY(h:p:=by rw[List.length_insertIdx];split<;>omega):p:=h
theorem QR{a:Type}(cs rest:List a)(i:Nat)(v:a)(hi:i<=cs.length):(cs.take i++(v::(cs.drop i++rest))).take (cs.length+1)=cs.insertIdx i v:=by
 have e:cs.take i++(v::(cs.drop i++rest))=cs.insertIdx i v++rest:=by
  rw[AQ cs i hi];simp
 rw[e,List.take_append_of_le_length yY,Qn yY]
theorem yW(h:p:=by simp only[Qk,Ql,Qm,Qj,List.length_nil];omega):p:=h
theorem yX(h:p:=by rw[List.length_insertIdx_of_le_length hi]):p:=h
theorem AK.shift{cs:List Vl}(h:AK w (nS (nM ⟨g,0,nN⟩) n c) e cs)(hi:i<=n)(l:n+1<=c):
  AK ((w.setCells g (i+1) (cs.drop i)).setCells g i [v]) (nS (nM ⟨g,0,nN⟩) (n+1) c) e (cs.insertIdx i v):=by
 obtain⟨a,f,rfl,q,j,r,k⟩:=h.blk;have s:(cs.drop i).length=cs.length-i:=Qm;have o:=f.setCells (cs.drop i) (i+1) _ _ Zj;have p:=o.setCells [v] i _ _ yW;have m:a.take i=cs.take i:=by rw[<-k,List.take_take,Nat.min_eq_left hi]
 refine AK.ofBlk p yX l j ?_ ?_
 .simp only[Qk,Ql,Qm,Qj,List.length_nil];omega
 .have b:(a.take (i+1)++(cs.drop i++a.drop (i+1+(cs.drop i).length))).take i=cs.take i:=by
   rw[List.take_append_of_le_length (by rw[Ql];omega),List.take_take,Nat.min_eq_left Zj,m]
  have d:(a.take (i+1)++(cs.drop i++a.drop (i+1+(cs.drop i).length))).drop (i+[v].length)=cs.drop i++a.drop (i+1+(cs.drop i).length):=by
   rw[List.drop_append_of_le_length (by rw[Ql];simp;omega),List.drop_of_length_le (by rw[Ql];simp;omega)];rfl
  rw[b,d];exact QR cs _ i v hi
theorem PQ{G:Nat}{cs a:List Vl}(hi:i<=cs.length)(m:a.length+i=G)(d:cs.length+1<=G)(f:G<=maxLen):
  AK (((w.alloc (nC (cs.take i++a).toArray e)).setCells w.heap.size i [v]).setCells w.heap.size (i+1) (cs.drop i)) (nS (nM ⟨w.heap.size,0,nN⟩) (cs.length+1) G) e (cs.insertIdx i v):=by
 have k:(cs.drop i).length=cs.length-i:=Qm;have l:(cs.take i).length=i:=by rw[Ql];omega
 have g:=Ac.new w (cs.take i++a) e;have h:=g.setCells [v] i _ _ (by simp only[Qk,Qj,List.length_nil];omega);have j:=h.setCells (cs.drop i) (i+1) _ _ yW;refine AK.ofBlk j yX d f ?_ ?_
 .simp only[Qk,Ql,Qm,Qj,List.length_nil];omega
 .have b:(cs.take i++a).take i=cs.take i:=by rw[List.take_append_of_le_length Zj,List.take_take,Nat.min_self]
  have c:((cs.take i++a).take i++([v]++(cs.take i++a).drop (i+[v].length))).take (i+1)=cs.take i++[v]:=by
   rw[b,<-List.append_assoc,List.take_append_of_le_length (by simp;omega),Qn (by simp;omega)]
  rw[c];have:=QR cs (((cs.take i++a).take i++([v]++(cs.take i++a).drop (i+[v].length))).drop (i+1+(cs.drop i).length)) i v hi;rw[<-this,List.append_assoc];rfl
theorem AK.one(h:AK w sv e xs):sv= nS nN 0 0/\xs=[]\/∃g c,sv= nS (nM ⟨g,0,nN⟩) xs.length c/\xs.length<=c:=by
 rcases h.2 with⟨a,b⟩|⟨g,cap,i,f,_,_,d,_⟩
 .exact .inl ⟨a,List.eq_nil_of_length_eq_zero b⟩
 .exact .inr ⟨g,cap,f,d⟩
structure DJ(w:Wl)(old bs:List Nat):Prop where
 nodup:bs.Nodup
 come:∀b,b∈bs->b∈old\/w.heap.size<=b
theorem DJ.refl(h:bs.Nodup):DJ w bs bs:=⟨h,fun _ a=> .inl a⟩
theorem DJ.perm{c:List Nat}(h:DJ w c bs)(a:cs.Perm bs):DJ w c cs:=⟨a.nodup_iff.2 h.nodup,fun b d=>h.come b (a.mem_iff.1 d)⟩
theorem DJ.sub{c:List Nat}(h:DJ w c bs)(a:cs.Sublist bs):DJ w c cs:=⟨h.nodup.sublist a,fun b d=>h.come b (a.subset d)⟩
theorem DJ.trans{d:Wl}{c:List Nat}(h:DJ w c bs)(k:DJ d bs cs)(e:w.heap.size<=d.heap.size):DJ w c cs:=
 ⟨k.nodup,fun b a=>(k.come b a).elim (h.come b) fun a=> .inr (Q7 e a)⟩
theorem DJ.cons{c:List Nat}(h:DJ w c bs)(d:w.heap.size<=g)(e:g∉bs):DJ w c (g::bs):=
 ⟨List.nodup_cons.2 ⟨e,h.nodup⟩,fun b a=>by rcases Qh.1 a with rfl|a;exact .inr d;exact h.come b a⟩
theorem DJ.mono(h:DJ w a bs)(d:∀b,b∈a->b∈cs):DJ w cs bs:=⟨h.nodup,fun b c=>(h.come b c).imp (d b) id⟩
theorem DJ.back{c:Wl}(h:DJ c a bs)(e:w.heap.size<=c.heap.size):DJ w a bs:=⟨h.nodup,fun b d=>(h.come b d).imp id fun h=>Q7 e h⟩
theorem DJ.row{c:Wl}{rest:List Nat}(h:DJ w d (sv.ownBlock.toList++rest))(a:sv.ownBlock=nM g\/c.heap.size<=g)(i:w.heap.size<=c.heap.size)(e:∀b,b∈rest->b<c.heap.size):DJ w d (g::rest):=by
 rcases a with a|a
 .rw[a]at h;exact h
 .exact(h.sub (List.sublist_append_right _ _)).cons (Q7 i a) fun f=>by have:=e g f;omega
structure Sy(w:Wl)(l:List Tr)(b:Nat)(sv:Vl)(vs:List Vl)(fs:List Nat):Prop where
 blk:Ac w b [sv] 74
 lst:AK w sv 66 vs
 at_:PsAt w l vs fs
structure PS(w:Wl)(ks:List BY)(l:List Tr)(b:Nat)(sv sk:Vl)(vs:List Vl)(fs:List Nat):Prop where
 blk:Ac w b [sv,sk] 125
 lst:AK w sv 66 vs
 keys:AK w sk 9 (Ad ks)
 len:ks.length=l.length
 at_:PsAt w l vs fs
def Jn(b:Nat):Vl:= nF 71 (nP (nM ⟨b,0,nN⟩))
def IR(b:Nat):Vl:= nF 123 (nP (nM ⟨b,0,nN⟩))
theorem AP.list(h:AP w (.list l) v bs):∃b sv vs a,v=Jn b/\Sy w l b sv vs a/\bs=b::(sv.ownBlock.toList++a):=by
 simp only[AP]at h;obtain⟨b,sv,vs,a,c,d,e,f,g⟩:=h;exact⟨b,sv,vs,a,c,⟨d,e,f⟩,g⟩
theorem Sy.pat(h:Sy w l b sv vs a):AP w (.list l) (Jn b) (b::(sv.ownBlock.toList++a)):=by
 simp only[AP];exact⟨b,sv,vs,a,rfl,h.blk,h.lst,h.at_,rfl⟩
theorem AP.obj(h:AP w (.obj ks l) v bs):∃b sv sk vs a,v=IR b/\PS w ks l b sv sk vs a/\bs=b::(sv.ownBlock.toList++(sk.ownBlock.toList++a)):=by
 simp only[AP]at h;obtain⟨b,sv,sk,vs,a,c,d,e,g,i,f,j⟩:=h;exact⟨b,sv,sk,vs,a,c,⟨d,e,g,i,f⟩,j⟩
theorem PS.pat(h:PS w ks l b sv sk vs a):AP w (.obj ks l) (IR b) (b::(sv.ownBlock.toList++(sk.ownBlock.toList++a))):=by
 simp only[AP];exact⟨b,sv,sk,vs,a,rfl,h.blk,h.lst,h.keys,h.len,h.at_,rfl⟩
theorem AP.leaf{t:Tr}(h:AP w t v bs)(a:∀l,t≠ .list l)(b:∀ks l,t≠ .obj ks l):v= nF 131 (nA #[AG t])/\bs=[]:=by
 cases t with
 |list l=>exact absurd rfl (a l)
 |obj ks l=>exact absurd rfl (b ks l)
 |_=>simpa only[AP]using h
theorem Sy.insert{e:Vl}(h:Sy w l b sv vs d)(hi:i<=l.length)(q:AP w' x e f)(o:Ac w' b [nS (nM ⟨g,0,nN⟩) n c] 74)(m:AK w' (nS (nM ⟨g,0,nN⟩) n c) 66 (vs.insertIdx i e))(p:Ca d w w'):
  ∃a,Sy w' (l.insertIdx i x) b (nS (nM ⟨g,0,nN⟩) n c) (vs.insertIdx i e) a/\a.Perm (f++d):=by
 obtain⟨a,j,k⟩:=(PsAt.same _ _ _ p h.at_).insert hi q;exact⟨a,⟨o,m,j⟩,k⟩
theorem Sy.erase(h:Sy w l b sv vs d)(s:l[i]? =nM u)(q:Ac w' b [nS (nM ⟨g,0,nN⟩) n c] 74)(p:AK w' (nS (nM ⟨g,0,nN⟩) n c) 66 (vs.eraseIdx i))(r:Ca d w w'):
  ∃f a e,vs[i]? =nM f/\AP w' u f a/\Sy w' (l.eraseIdx i) b (nS (nM ⟨g,0,nN⟩) n c) (vs.eraseIdx i) e/\d.Perm (a++e):=by
 obtain⟨v,a,rest,j,k,m,o⟩:=(PsAt.same _ _ _ r h.at_).erase s;exact⟨v,a,rest,j,k,⟨q,p,m⟩,o⟩
theorem PS.insert{d f:Nat}{s:BY}{k:Vl}{e m:List Nat}(h:PS w ks l b sv sk vs e)(hi:i<=l.length)(v:AP w' x k m)(t:Ac w' b [nS (nM ⟨g,0,nN⟩) n c,nS (nM ⟨f,0,nN⟩) j d] 125)(r:AK w' (nS (nM ⟨g,0,nN⟩) n c) 66 (vs.insertIdx i k))(q:AK w' (nS (nM ⟨f,0,nN⟩) j d) 9 (Ad (ks.insertIdx i s)))(u:Ca e w w'):
  ∃a,PS w' (ks.insertIdx i s) (l.insertIdx i x) b (nS (nM ⟨g,0,nN⟩) n c) (nS (nM ⟨f,0,nN⟩) j d) (vs.insertIdx i k) a/\a.Perm (m++e):=by
 obtain⟨a,o,p⟩:=(PsAt.same _ _ _ u h.at_).insert hi v;exact⟨a,⟨t,r,q,by rw[List.length_insertIdx_of_le_length hi,List.length_insertIdx_of_le_length (by rw[h.len];exact hi),h.len],o⟩,p⟩
theorem PS.erase{d f:Nat}{e:List Nat}(h:PS w ks l b sv sk vs e)(m:l[i]? =nM u)(y:Ac w' b [nS (nM ⟨g,0,nN⟩) n c,nS (nM ⟨f,0,nN⟩) j d] 125)(x:AK w' (nS (nM ⟨g,0,nN⟩) n c) 66 (vs.eraseIdx i))(t:AK w' (nS (nM ⟨f,0,nN⟩) j d) 9 (Ad (ks.eraseIdx i)))(z:Ca e w w'):
  ∃o a k,vs[i]? =nM o/\AP w' u o a/\PS w' (ks.eraseIdx i) (l.eraseIdx i) b (nS (nM ⟨g,0,nN⟩) n c) (nS (nM ⟨f,0,nN⟩) j d) (vs.eraseIdx i) k/\e.Perm (a++k):=by
 obtain⟨v,a,rest,p,q,r,s⟩:=(PsAt.same _ _ _ z h.at_).erase m;have hi:=(Qc.1 m).1;exact⟨v,a,rest,p,q,⟨y,x,t,by rw[List.length_eraseIdx_of_lt hi,List.length_eraseIdx_of_lt (by rw[h.len];exact hi),h.len],r⟩,s⟩
theorem Sy.set(h:Sy w l b sv vs f)(H:l[i]? =nM u)(G:(d++(b::(sv.ownBlock.toList++f))).Nodup)(I:AP w x m d):
  ∃g c,sv= nS (nM ⟨g,0,nN⟩) vs.length c/\(∃O,w.cell? ⟨g,i,nN⟩=nM O)/\(∀j,w.frozen? ⟨g,j,nN⟩=false)/\
   ∃n r s,f.Perm (n++r)/\s.Perm (d++r)/\Sy (w.setCell ⟨g,i,nN⟩ m) (l.set i x) b sv (vs.set i m) s:=by
 obtain⟨v,n,rest,p,o,Q,t,C,z⟩:=h.at_.set H I;rcases h.lst.one with⟨_,rfl⟩|⟨g,c,rfl,R⟩
 .simp at o
 .obtain⟨P,B,_,K,L,M,N⟩:=h.lst.blk;have hi:=(Qc.1 o).1
  have E:g∉b::(d++f):=by
   have:(g::(b::(d++f))).Perm (d++(b::((Vl.slice (nM ⟨g,0,nN⟩) vs.length c).ownBlock.toList++f))):=by
    simp only[Vl.ownBlock,Option.toList_some,Qo,List.nil_append];refine List.Perm.trans ?_ (List.perm_middle (l₁:=d) (a:=b) (l₂:=g::f)).symm;refine List.Perm.trans (List.Perm.swap b g _) ((List.perm_middle (l₁:=d) (a:=g) (l₂:=f)).symm.cons b)
   exact(List.nodup_cons.1 (this.nodup_iff.2 G)).1
  have A:Ca (b::(d++f)) w (w.setCell ⟨g,i,nN⟩ m):=fun k F=>Below.heap_setCell _ _ _ _ (by simp only;intro e;subst e;exact E F)
  have D:∀y,y∈p->y∈b::(d++f):=fun y J=>by
   have:=z.mem_iff.1 J;simp only[Qh,Qf]at this|-;rcases this with q|q
   .exact .inr (.inl q)
   .exact .inr (.inr (t.mem_iff.2 (Qd _ q)))
  refine⟨g,c,rfl,⟨v,h.lst.cell rfl i v o⟩,fun j=>B.frozen j,n,rest,p,t,z,h.blk.same (A b Zh), ?_,PsAt.same _ _ _ (A.mono D) C⟩;exact AK.ofBlk (B.set i m) Zh K L (by simpa using M) (by rw[List.take_set,N])
theorem PS.set(h:PS w ks l b sv sk vs f)(I:l[i]? =nM u)(H:(d++(b::(sv.ownBlock.toList++(sk.ownBlock.toList++f)))).Nodup)(J:AP w x m d):
  ∃g c,sv= nS (nM ⟨g,0,nN⟩) vs.length c/\(∃O,w.cell? ⟨g,i,nN⟩=nM O)/\(∀j,w.frozen? ⟨g,j,nN⟩=false)/\
   ∃n r z,f.Perm (n++r)/\z.Perm (d++r)/\PS (w.setCell ⟨g,i,nN⟩ m) ks (l.set i x) b sv sk (vs.set i m) z:=by
 obtain⟨v,n,rest,t,o,Q,A,D,B⟩:=h.at_.set I J;rcases h.lst.one with⟨_,rfl⟩|⟨g,c,rfl,R⟩
 .simp at o
 .obtain⟨P,C,_,K,L,M,N⟩:=h.lst.blk;have hi:=(Qc.1 o).1
  have F:g∉b::(d++(sk.ownBlock.toList++f)):=by
   have:(g::(b::(d++(sk.ownBlock.toList++f)))).Perm (d++(b::((Vl.slice (nM ⟨g,0,nN⟩) vs.length c).ownBlock.toList++(sk.ownBlock.toList++f)))):=by
    simp only[Vl.ownBlock,Option.toList_some,Qo,List.nil_append];refine List.Perm.trans ?_ (List.perm_middle (l₁:=d) (a:=b) (l₂:=g::_)).symm;refine List.Perm.trans (List.Perm.swap b g _) ((List.perm_middle (l₁:=d) (a:=g) (l₂:=_)).symm.cons b)
   exact(List.nodup_cons.1 (this.nodup_iff.2 H)).1
  have p:Ca (b::(d++(sk.ownBlock.toList++f))) w (w.setCell ⟨g,i,nN⟩ m):=fun k G=>Below.heap_setCell _ _ _ _ (by simp only;intro e;subst e;exact F G)
  have E:∀y,y∈t->y∈b::(d++(sk.ownBlock.toList++f)):=fun y s=>by
   have:=B.mem_iff.1 s;simp only[Qh,Qf]at this|-;rcases this with q|q
   .exact .inr (.inl q)
   .exact .inr (.inr (.inr (A.mem_iff.2 (Qd _ q))))
  refine⟨g,c,rfl,⟨v,h.lst.cell rfl i v o⟩,fun j=>C.frozen j,n,rest,t,A,B,h.blk.same (p b Zh), ?_,h.keys.same (p.mono fun y s=>by simp only[Qh,Qf];exact .inr (.inr (.inl s))),by rw[List.length_set];exact h.len,PsAt.same _ _ _ (p.mono E) D⟩;exact AK.ofBlk (C.set i m) Zh K L (by simpa using M) (by rw[List.take_set,N])
end
end Go.Proofs.YtamgbmcchhmojaaGreatDoor

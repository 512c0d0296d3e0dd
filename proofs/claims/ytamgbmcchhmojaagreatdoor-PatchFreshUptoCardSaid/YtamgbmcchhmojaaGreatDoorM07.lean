/- Part 7 of the proof of patchFresh_card. -/
import Derived.Test.YtamgbmcchhmojaaGreatDoorM06
set_option maxRecDepth 100000
set_option maxHeartbeats 32000000
set_option linter.all false
namespace Go.Proofs.YtamgbmcchhmojaaGreatDoor
open Go renaming Calls->Cl,TypeId->Ti,Value->Vl,World->Wl
open Go.Value renaming agg->nA,iface->nF,int->nI,pointer->nP,slice->nS,string->nG,tuple->nT
open Go.IntKind renaming i64->nX
open Go.Ending renaming returned->nR
open Go.Obj renaming cells->nC
open Option renaming none->nN,some->nM
section
open _root_.Go.Proofs.Tryz
open Go Go.RowKit Tree
variable{l:List Aw}{ts:List Tr}{xs:List Vl}{i n:Nat}{F G:Nat->Prop}{p:Prop}{sv:Vl}{w w' wr:Wl}
def Iq:Vl:= nA #[nI nX 0,.bool false,nI .u64 0,nG ⟨#[]⟩,nI nX 0,nS nN 0 0]
theorem DM:(prog.info? 55).map (fun i=>(i.zero,i.size,i.bytes))=nM (nM Iq,6,72):=Yb
def NR(F G:Nat->Prop)(sv:Vl)(n:Nat)(l:List Aw)(t:Tr)(w:Wl)(e:Ending)(w':Wl):Prop:=
 ∃c a d,e= nR c/\Ba w' c 55 6 (n+(Ag t).nodes) d/\AR w' a (l++Ai t) d/\Chg w w' sv.ownBlock.toList/\
  (∀g,c.ownBlock=nM g->sv.ownBlock=nM g\/w.heap.size<=g)/\(∀b,G b->a b)/\(∀b,a b->b<w.heap.size->G b)/\(∀b,a b->b<w'.heap.size)/\(∀g,c.ownBlock=nM g->¬a g)
structure Dw(F G:Nat->Prop)(sv:Vl)(n:Nat)(l:List Aw)(xs:List Vl)(w:Wl):Prop where
 ltF:∀b,F b->b<w.heap.size
 lst:Ba w sv 55 6 n xs
 at_:AR w G l xs
 own:∀g,sv.ownBlock=nM g->¬F g/\¬G g
 ltG:∀b,G b->b<w.heap.size
theorem Dw.kept(h:Dw F G sv n l xs w)(a:Chg w w' []):Dw F G sv n l xs w':=
 ⟨fun b c=>Q6 (h.ltF b c) a.size,h.lst.kept a,AR.kept (a.keepsF h.ltG) (fun _ h=>h) _ _ h.at_,h.own,fun b c=>Q6 (h.ltG b c) a.size⟩
theorem La(t:Tr):(Ag t).nodes=(Bk (Ab t)).nodes+1:=by
 rw[<-BL,Ea,<-CS];simp
theorem M4(l:List Tr)(i:Nat):(Bk (l.take i)).nodes<=(Bk l).nodes:=by
 have h:=congrArg (fun s=>(Bk s).nodes) (List.take_append_drop i l);simp only[G4,Sz.add]at h;omega
def Do(G:Nat->Prop)(sv:Vl)(n:Nat)(l:List Aw)(ts:List Tr)(w:Wl)(i:Nat)(c:Vl)(wr:Wl):Prop:=
 ∃a d,Ba wr c 55 6 (n+(Bk (ts.take i)).nodes) d/\AR wr a (l++BI (ts.take i)) d/\Chg w wr sv.ownBlock.toList/\
  (∀g,c.ownBlock=nM g->sv.ownBlock=nM g\/w.heap.size<=g)/\(∀b,G b->a b)/\(∀b,a b->b<w.heap.size->G b)/\(∀b,a b->b<wr.heap.size)/\(∀g,c.ownBlock=nM g->¬a g)
theorem Do.start(h:Dw F G sv n l xs w):Do G sv n l ts w 0 sv w:=
 ⟨G,xs,by simpa[Bk]using h.lst,by simpa[BI]using h.at_,Chg.none cR _,fun g a=> .inl a,fun _ h=>h,fun _ h _=>h,h.ltG,fun g a=>(h.own g a).2⟩
theorem Do.inn{d:Vl}(c:Dw F G sv n l xs w)(h:Do G sv n l ts w i d wr):
  ∃a e,Dw F a d (n+(Bk (ts.take i)).nodes) (l++BI (ts.take i)) e wr/\(∀b,G b->a b)/\(∀b,a b->b<w.heap.size->G b)/\Chg w wr sv.ownBlock.toList/\(∀g,d.ownBlock=nM g->sv.ownBlock=nM g\/w.heap.size<=g):=by
 obtain⟨a,e,o,p,f,j,q,r,s,t⟩:=h;refine⟨a,e,⟨fun b u=>Q6 (c.ltF b u) f.size,o,p,fun g m=>⟨fun k=> ?_,t g m⟩,s⟩,q,r,f,j⟩;rcases j g m with h|h
 .exact(c.own g h).1 k
 .have:=c.ltF g k;omega
theorem Do.next{c:Nat->Prop}{p:Vl}{u:Tr}{e:Ending}(H:Dw F G sv n l xs w)(q:∀b,G b->c b)(r:∀b,c b->b<w.heap.size->G b)(f:Chg w wr sv.ownBlock.toList)(m:∀g,p.ownBlock=nM g->sv.ownBlock=nM g\/w.heap.size<=g)(o:ts[i]? =nM u)(h:NR F c p (n+(Bk (ts.take i)).nodes) (l++BI (ts.take i)) u wr e w'):∃a,e= nR a/\Do G sv n l ts w (i+1) a w':=by
 obtain⟨a,G2,E,rfl,v,x,y,z,A,B,C,D⟩:=h;refine⟨a,rfl,G2,E, ?_, ?_, ?_, ?_,fun b d=>A b (q b d),fun b d k=>r b (B b d (Q6 k f.size)) k,C,D⟩
 .rw[BM o];have e:n+((Bk (ts.take i)).add (Ag u)).nodes=n+(Bk (ts.take i)).nodes+(Ag u).nodes:=by unfold Sz.add;simp[Nat.add_assoc]
  rw[e];exact v
 .rw[EA o,<-List.append_assoc];exact x
 .refine f.step y fun j t k=> ?_;rcases m j (by simpa using t)with h|h
  .simpa using h
  .omega
 .intro g s;rcases z g s with h|h
  .exact m g h
  .exact .inr (Q7 f.size h)
theorem zT(h:p:=by rw[q,r,<-y.o];exact hZ (Ac.new _ _ _)):p:=h
theorem zU(h:p:=by rw[q];exact hZ (o.alloc _)):p:=h
theorem zW(h:p:=by rw[r];exact o.size):p:=h
theorem zX(h:p:=by simpa using E):p:=h
theorem Tj:∀(k:Nat) (t:Tr) (F G:Nat->Prop) (v sv:Vl) (n:Nat) (l:List Aw) (xs:List Vl) (w:Wl),(Ag t).nodes<=k->n+(Ag t).nodes<=4294967296->Af w F t v->Dw F G sv n l xs w->
  Cl prog 74 #[sv,v] w (NR F G sv n l t w):=by
 intro k;induction k with
 |zero=>intro t _ _ _ _ _ _ _ _ h;have:=Cv t;omega
 |succ k ih=>
  intro a F G v sv n l xs w hk aW af aT;have IH:=hZ ih;have A:=hZ aT;have bd:=hZ af;obtain⟨f,args,E,hc⟩:=Sg a v af;have Q:=hZ E;have P:=hZ hc;have HK:=hZ hk;obtain⟨t,ht⟩:=Ue a;have D:Af w F t v:=ht▸af;have y:=hZ ht;clear ih aT E hc hk af ht;cases t
  case' null=>
   simp only[Af]at D;subst D;have V:∀(w:Wl),(Instr.typeAssert (nF 159 (nA #[])) 86 160 true).run prog w= .ok (nT #[.bool false,.bool false]) w:=fun _=>Yb;have a1:∀(w:Wl),(Instr.typeAssert (nF 159 (nA #[])) 86 164 true).run prog w= .ok (nT #[.float .f64 0,.bool false]) w:=fun _=>Yb;have a2:∀(w:Wl),(Instr.typeAssert (nF 159 (nA #[])) 86 166 true).run prog w= .ok (nT #[nG ⟨#[]⟩,.bool false]) w:=fun _=>Yb;have a3:∀(w:Wl),(Instr.typeAssert (nF 159 (nA #[])) 86 141 true).run prog w= .ok (nT #[nP nN,.bool false]) w:=fun _=>Yb;have a4:∀(w:Wl),(Instr.typeAssert (nF 159 (nA #[])) 86 142 true).run prog w= .ok (nT #[nP nN,.bool false]) w:=fun _=>Yb;go_enter func74,ntmps74;go_upto_region 18 with(first|(refine Am rfl _ _ _ rfl _ rfl f args Q.o _ P.o ?_;rintro e s ⟨rfl,o⟩;refine⟨_,rfl, ?_⟩;rw[show Hj a=1 from by rw[<-y.o];rfl]));obtain⟨X,r⟩:=Ue s.heap.size
   obtain⟨p,q⟩:=Ue (s.alloc (nC (Ci (Aa .null) (nS nN 0 0)).toArray 55));have C:Hid (Ac p X (Ci (Aa a) (nS nN 0 0)) 55):=zT
   have B:Hid (Chg w p []):=zU
   have Z:w.heap.size<=X:=zW
   change Code.wp _ _ _ _ (s.alloc (nC (Ci (Aa .null) (nS nN 0 0)).toArray 55));rw[<-q,<-r];obtain⟨c,m,d,z⟩:∃c m d,Vl.slice c m d=Vl.slice nN 0 0:=⟨_,_,_,rfl⟩;rw[<-z]at C
   have M:Hid (∃G2:Nat->Prop,Dw F G2 sv n l xs p/\Ax p G2 (nS c m d) (Ad (Aa a).keys)/\(∀b,G b->G2 b)/\(∀b,G2 b->b<w.heap.size->G b)/\¬G2 X):=by
    refine hZ ⟨G,A.o.kept B.o, ?_,fun _ h=>h,fun _ h _=>h,fun h=>by have:=A.o.ltG X h;omega⟩;rw[z,<-y.o];exact Ax.empty _ _
   clear z q r o
  case' flag b=>
   simp only[Af]at D;subst D;have V:∀(w:Wl),(Instr.typeAssert (nF 160 (.bool b)) 86 160 true).run prog w= .ok (nT #[.bool b,.bool true]) w:=fun _=>Yb;go_enter func74,ntmps74;go_upto_region 18 with(first|(refine Am rfl _ _ _ rfl _ rfl f args Q.o _ P.o ?_;rintro e s ⟨rfl,o⟩;refine⟨_,rfl, ?_⟩;rw[show Hj a=2 from by rw[<-y.o];rfl]));obtain⟨X,r⟩:=Ue s.heap.size
   obtain⟨p,q⟩:=Ue (s.alloc (nC (Ci (Aa (.flag b)) (nS nN 0 0)).toArray 55));have C:Hid (Ac p X (Ci (Aa a) (nS nN 0 0)) 55):=zT
   have B:Hid (Chg w p []):=zU
   have Z:w.heap.size<=X:=zW
   change Code.wp _ _ _ _ (s.alloc (nC (Ci (Aa (.flag b)) (nS nN 0 0)).toArray 55));rw[<-q,<-r];obtain⟨c,m,d,z⟩:∃c m d,Vl.slice c m d=Vl.slice nN 0 0:=⟨_,_,_,rfl⟩;rw[<-z]at C
   have M:Hid (∃G2:Nat->Prop,Dw F G2 sv n l xs p/\Ax p G2 (nS c m d) (Ad (Aa a).keys)/\(∀b,G b->G2 b)/\(∀b,G2 b->b<w.heap.size->G b)/\¬G2 X):=by
    refine hZ ⟨G,A.o.kept B.o, ?_,fun _ h=>h,fun _ h _=>h,fun h=>by have:=A.o.ltG X h;omega⟩;rw[z,<-y.o];exact Ax.empty _ _
   clear z q r o
  case' num b=>
   simp only[Af]at D;subst D;have V:∀(w:Wl),(Instr.typeAssert (nF 164 (.float .f64 b)) 86 160 true).run prog w= .ok (nT #[.bool false,.bool false]) w:=fun _=>Yb;have a1:∀(w:Wl),(Instr.typeAssert (nF 164 (.float .f64 b)) 86 164 true).run prog w= .ok (nT #[.float .f64 b,.bool true]) w:=fun _=>Yb;have bE:=GX;go_enter func74,ntmps74;go_upto_region 18 with(first|(refine Am rfl _ _ _ rfl _ rfl f args Q.o _ P.o ?_;rintro e s ⟨rfl,o⟩;refine⟨_,rfl, ?_⟩;rw[show Hj a=3 from by rw[<-y.o];rfl]));obtain⟨X,r⟩:=Ue s.heap.size
   obtain⟨p,q⟩:=Ue (s.alloc (nC (Ci (Aa (.num b)) (nS nN 0 0)).toArray 55));have C:Hid (Ac p X (Ci (Aa a) (nS nN 0 0)) 55):=zT
   have B:Hid (Chg w p []):=zU
   have Z:w.heap.size<=X:=zW
   change Code.wp _ _ _ _ (s.alloc (nC (Ci (Aa (.num b)) (nS nN 0 0)).toArray 55));rw[<-q,<-r];obtain⟨c,m,d,z⟩:∃c m d,Vl.slice c m d=Vl.slice nN 0 0:=⟨_,_,_,rfl⟩;rw[<-z]at C
   have M:Hid (∃G2:Nat->Prop,Dw F G2 sv n l xs p/\Ax p G2 (nS c m d) (Ad (Aa a).keys)/\(∀b,G b->G2 b)/\(∀b,G2 b->b<w.heap.size->G b)/\¬G2 X):=by
    refine hZ ⟨G,A.o.kept B.o, ?_,fun _ h=>h,fun _ h _=>h,fun h=>by have:=A.o.ltG X h;omega⟩;rw[z,<-y.o];exact Ax.empty _ _
   clear z q r o
  case' text b=>
   simp only[Af]at D;subst D;have V:∀(w:Wl),(Instr.typeAssert (nF 166 (nG b)) 86 160 true).run prog w= .ok (nT #[.bool false,.bool false]) w:=fun _=>Yb;have a1:∀(w:Wl),(Instr.typeAssert (nF 166 (nG b)) 86 164 true).run prog w= .ok (nT #[.float .f64 0,.bool false]) w:=fun _=>Yb;have a2:∀(w:Wl),(Instr.typeAssert (nF 166 (nG b)) 86 166 true).run prog w= .ok (nT #[nG b,.bool true]) w:=fun _=>Yb;go_enter func74,ntmps74;go_upto_region 18 with(first|(refine Am rfl _ _ _ rfl _ rfl f args Q.o _ P.o ?_;rintro e s ⟨rfl,o⟩;refine⟨_,rfl, ?_⟩;rw[show Hj a=4 from by rw[<-y.o];rfl]));obtain⟨X,r⟩:=Ue s.heap.size
   obtain⟨p,q⟩:=Ue (s.alloc (nC (Ci (Aa (.text b)) (nS nN 0 0)).toArray 55));have C:Hid (Ac p X (Ci (Aa a) (nS nN 0 0)) 55):=zT
   have B:Hid (Chg w p []):=zU
   have Z:w.heap.size<=X:=zW
   change Code.wp _ _ _ _ (s.alloc (nC (Ci (Aa (.text b)) (nS nN 0 0)).toArray 55));rw[<-q,<-r];obtain⟨c,m,d,z⟩:∃c m d,Vl.slice c m d=Vl.slice nN 0 0:=⟨_,_,_,rfl⟩;rw[<-z]at C
   have M:Hid (∃G2:Nat->Prop,Dw F G2 sv n l xs p/\Ax p G2 (nS c m d) (Ad (Aa a).keys)/\(∀b,G b->G2 b)/\(∀b,G2 b->b<w.heap.size->G b)/\¬G2 X):=by
    refine hZ ⟨G,A.o.kept B.o, ?_,fun _ h=>h,fun _ h _=>h,fun h=>by have:=A.o.ltG X h;omega⟩;rw[z,<-y.o];exact Ax.empty _ _
   clear z q r o
  case' list ll=>
   simp only[Af]at D;obtain⟨b,sl,vv,rfl,R,_,_,_,c3,S,hi⟩:=D;obtain⟨sa,sc,rfl,_⟩:=S.cell;have bk:=hZ hi.length;have lb:=A.o.ltF b R;clear S hi;have V:∀(w:Wl),(Instr.typeAssert (nF 141 (nP (nM ⟨b,0,nN⟩))) 86 160 true).run prog w= .ok (nT #[.bool false,.bool false]) w:=fun _=>Yb;have a1:∀(w:Wl),(Instr.typeAssert (nF 141 (nP (nM ⟨b,0,nN⟩))) 86 164 true).run prog w= .ok (nT #[.float .f64 0,.bool false]) w:=fun _=>Yb;have a2:∀(w:Wl),(Instr.typeAssert (nF 141 (nP (nM ⟨b,0,nN⟩))) 86 166 true).run prog w= .ok (nT #[nG ⟨#[]⟩,.bool false]) w:=fun _=>Yb;have a3:∀(w:Wl),(Instr.typeAssert (nF 141 (nP (nM ⟨b,0,nN⟩))) 86 141 true).run prog w= .ok (nT #[nP (nM ⟨b,0,nN⟩),.bool true]) w:=fun _=>Yb;go_enter func74,ntmps74;go_upto_region 18 with(first|(refine Am rfl _ _ _ rfl _ rfl f args Q.o _ P.o ?_;rintro e s ⟨rfl,o⟩;refine⟨_,rfl, ?_⟩;rw[show Hj a=5 from by rw[<-y.o];rfl];have bm:=o.keeps c3;have bA:=Q6 lb o.size));rw[bk.o];obtain⟨X,r⟩:=Ue s.heap.size
   obtain⟨p,q⟩:=Ue (s.alloc (nC (Ci (Aa (.list ll)) (nS nN 0 0)).toArray 55));have C:Hid (Ac p X (Ci (Aa a) (nS nN 0 0)) 55):=zT
   have B:Hid (Chg w p []):=zU
   have Z:w.heap.size<=X:=zW
   change Code.wp _ _ _ _ (s.alloc (nC (Ci (Aa (.list ll)) (nS nN 0 0)).toArray 55));rw[<-q,<-r];obtain⟨c,m,d,z⟩:∃c m d,Vl.slice c m d=Vl.slice nN 0 0:=⟨_,_,_,rfl⟩;rw[<-z]at C
   have M:Hid (∃G2:Nat->Prop,Dw F G2 sv n l xs p/\Ax p G2 (nS c m d) (Ad (Aa a).keys)/\(∀b,G b->G2 b)/\(∀b,G2 b->b<w.heap.size->G b)/\¬G2 X):=by
    refine hZ ⟨G,A.o.kept B.o, ?_,fun _ h=>h,fun _ h _=>h,fun h=>by have:=A.o.ltG X h;omega⟩;rw[z,<-y.o];exact Ax.empty _ _
   clear z q r o
  case' obj kk ll=>
   simp only[Af]at D;obtain⟨b,bI,sl,vv,rfl,R,aV,_,_,_,c3,S,_,_,_⟩:=D;obtain⟨sa,sc,rfl,_⟩:=S.cell;have HR:=hZ S;have lb:=A.o.ltF b R;have bg:=hZ aV;clear S aV;have V:∀(w:Wl),(Instr.typeAssert (nF 142 (nP (nM ⟨b,0,nN⟩))) 86 160 true).run prog w= .ok (nT #[.bool false,.bool false]) w:=fun _=>Yb;have a1:∀(w:Wl),(Instr.typeAssert (nF 142 (nP (nM ⟨b,0,nN⟩))) 86 164 true).run prog w= .ok (nT #[.float .f64 0,.bool false]) w:=fun _=>Yb;have a2:∀(w:Wl),(Instr.typeAssert (nF 142 (nP (nM ⟨b,0,nN⟩))) 86 166 true).run prog w= .ok (nT #[nG ⟨#[]⟩,.bool false]) w:=fun _=>Yb;have a3:∀(w:Wl),(Instr.typeAssert (nF 142 (nP (nM ⟨b,0,nN⟩))) 86 141 true).run prog w= .ok (nT #[nP nN,.bool false]) w:=fun _=>Yb;have a4:∀(w:Wl),(Instr.typeAssert (nF 142 (nP (nM ⟨b,0,nN⟩))) 86 142 true).run prog w= .ok (nT #[nP (nM ⟨b,0,nN⟩),.bool true]) w:=fun _=>Yb;go_enter func74,ntmps74
   go_upto_region 18 with(first
    |(refine Am rfl _ _ _ rfl _ rfl f args Q.o _ P.o ?_;rintro e s ⟨rfl,o⟩;refine⟨_,rfl, ?_⟩;rw[show Hj a=6 from by rw[<-y.o];rfl];have bm:=o.keeps c3;have bA:=Q6 lb o.size)
    |(go_at_call 22;(refine(DL F _ (Ad kk) _ (HR.o.kept ((o.alloc _).keepsF A.o.ltF) (fun _ h=>h)) (Gu kk) (by have:=Bj a;rw[<-y.o]at this;have h2:=aW;rw[<-y.o]at h2;simp only[Ab]at this;rw[Ao,bg.o];omega)).mono ?_);rintro e w2 ⟨sk,rfl,ae,al,am⟩;obtain⟨c,d,rfl,bv⟩:=ae.form;have U:=hZ ((Ac.new s (Ci ⟨6,false,0,Dz,0,[]⟩ (nS nN 0 0)) 55).kept am);have qf:∀j,w2.frozen? ⟨s.heap.size,j,nN⟩=false:=(fun j=>U.o.frozen j);have q5:w2.cell? ⟨s.heap.size,5,nN⟩=nM (nS nN 0 0):=U.o.cell 5;have ql:=U.o.lt))
   obtain⟨m,a0⟩:=Ue ((Ad kk).length);rw[<-a0]at ae al|-;obtain⟨X,r⟩:=Ue s.heap.size;obtain⟨p,q⟩:=Ue (w2.setCell ⟨s.heap.size,5,nN⟩ (nS c m d));have C:Hid (Ac p X (Ci (Aa a) (nS c m d)) 55):=by rw[q,r,<-y.o];exact hZ (U.o.set 5 _)
   have B:Hid (Chg w p []):=by rw[q];exact hZ (((o.alloc _).trans am).setCell _ _ (by have:=o.size;simp;omega))
   have Z:w.heap.size<=X:=zW
   rw[<-q,<-r]
   have M:Hid (∃G2:Nat->Prop,Dw F G2 sv n l xs p/\Ax p G2 (nS c m d) (Ad (Aa a).keys)/\(∀b,G b->G2 b)/\(∀b,G2 b->b<w.heap.size->G b)/\¬G2 X):=by
    have ag:∀g,(Vl.slice c m d).ownBlock=nM g->s.heap.size<g:=fun g N=>by
     have:=al g N;simp at this;omega
    have aM:AK p (nS c m d) 9 (Ad kk):=by
     rw[q];exact ae.kept (bs:=[s.heap.size]) ((Chg.refl _ _).setCell _ _ Zh) (fun g N=>by have:=ag g N;simp;omega)
    have K:=A.o.kept B.o;refine hZ ⟨fun b=>G b\/(Vl.slice c m d).ownBlock=nM b,⟨K.ltF,K.lst,AR.kept (fun _ _ _=>rfl) (fun _ h=> .inl h) _ _ K.at_,fun g N=>⟨(K.own g N).1,fun h=> ?_⟩,fun b J=> ?_⟩, ?_,fun _ h=> .inl h,fun b J hl=> ?_,fun h=> ?_⟩
    .rcases h with h|h
     .exact(K.own g N).2 h
     .have W:=ag g h;have h2:=A.o.lst.lt N;have:=o.size;omega
    .rcases J with h|h
     .exact K.ltG b h
     .exact aM.lt h
    .rw[<-y.o];refine(AK.toRow aM).kept (fun _ _ _=>rfl) (fun b h=> .inr h)
    .rcases J with h|h
     .exact h
     .have:=ag b h;have:=o.size;omega
    .rcases h with h|h
     .have:=A.o.ltG X h;omega
     .have:=ag X h;omega
   clear q r o am ae al bv a0 U qf q5 ql
  all_goals
   obtain⟨G2,K,aZ,aJ,aK,bC⟩:=M.o;have ad:=hZ K;have az:=hZ aZ;have a8:=hZ aJ;have a9:=hZ aK;have ax:=hZ (Af.kept (B.o.keepsF A.o.ltF) (fun _ h=>h) _ _ bd.o);clear K aZ aJ aK M;go_wp2_with fail;refine(ID F a _ p ax.o ad.o.ltF).mono ?_;rintro e w4 ⟨bJ,O,rfl,aY,ao,ab⟩;obtain⟨ia,ic,rfl,aR⟩:=aY.cell;have a7:=hZ aR;have be:=hZ ao;have H:=hZ (ad.o.kept ab);have bl:=hZ (C.o.kept ab);have aA:=hZ (az.o.kept (ab.keepsF ad.o.ltG) (fun _ h=>h));have av:=hZ (B.o.trans ab);have a6:O.length=(Ab a).length:=ao.length;have bt:=Bj a;have bq:=HK.o;have aB:=hZ a6;have bF:O.length<=4294967296:=Zj;clear aR ao ab aY a6 C B ad az ax;go_wp2_with fail;go_loopw [0,55] (fun v0 aq wr=>∃(i:Nat) (ah:Vl),i<=O.length/\aq= nI nX i/\ah=v0/\Do G2 sv n l (Ab a) w4 i ah wr) (fun _ aq _=>O.length-(intOf aq).toNat)
   case atStart=>exact⟨0,sv,Zj,rfl,rfl,Do.start H.o⟩
   case round=>
    obtain⟨i,ah,hi,rfl,rfl,hL⟩:=hrel;obtain⟨G5,ar,aU,aD,aE,aF,aG⟩:=Do.inn H.o hL;have I:=hZ aU;have ai:=hZ aD;have au:=hZ aE;have L:=hZ aF;have aj:=hZ aG;have bB:=hZ hL;clear aU aD aE aF aG hL;by_cases br:i<O.length
    .obtain⟨u,hu⟩:∃u,(Ab a)[i]? =nM u:=⟨_,Q9 (by rw[<-aB.o];exact br)⟩;obtain⟨x,hx,ap⟩:=be.o.get i u hu;obtain⟨bb,oo,bp,R,aS⟩:=a7.o i x hx;subst bp;have aI:bb∉sv.ownBlock.toList:=fun E=>(H.o.own bb zX).1 R;have bD:wr.cell? ⟨bb,oo+i,nN⟩=nM x:=(L.o.cell (H.o.ltF bb R) aI).trans aS;have bf:=hZ (Af.kept (L.o.keepsF H.o.ltF (fun b E hF=>(H.o.own b zX).1 hF)) (fun _ h=>h) _ _ ap);obtain⟨ti,xx,rfl⟩:=ap.iface;have bx:=CO hu
     have bw:(Bk ((Ab a).take i)).nodes+(Ag u).nodes<=(Ag a).nodes:=by
      have W:=M4 (Ab a) (i+1);rw[BM hu]at W;have h2:=La a;simp only[Sz.add]at W;omega
     have HU:=hZ hu;have bc:=hZ (IH.o u F G5 _ _ _ _ ar _ Zj Zj bf.o I.o);clear hu hx ap aS bx bw aI;go_wp2_with fail;refine bc.o.mono ?_;rintro e w6 hP;obtain⟨v1,rfl,aN⟩:=Do.next H.o ai.o au.o L.o aj.o HU.o hP;have bh:=hZ aN;clear hP aN;go_wp2_with fail;go_roundw
     case rel=>exact⟨i+1,_,Zj,by go_num,rfl,bh.o⟩
     case measure=>simp[intOf];omega
    .obtain rfl:i=O.length:=by omega
     have a5:(Ab a).take O.length=Ab a:=Qn (by rw[aB.o];exact Q8 _);rw[a5]at I;have aX:=La a;have aQ:X∉sv.ownBlock.toList:=fun E=>by have:=A.o.lst.lt zX;omega
     have aC:=hZ (bl.o.kept L.o aQ);obtain⟨xl,xf,x0,x1,x2,x3,x4,x5⟩:=aC.o.cells6;obtain⟨T,an⟩:=Ue (Aa a);rw[<-an]at aC aA x0 x1 x2 x3 x4;have ba:=hZ an;have bj:=hZ aX;have aw:=UD ((n+(Bk (Ab a)).nodes+1)*72<=140737488355328/\n+(Bk (Ab a)).nodes<=140737488355328) ⟨Zj,Zj⟩;clear an a5 aX aQ aW bq bt xf xl
     go_wp2_with(first
      |(at_builtin;go_loud(refine Bg rfl _ _ _ rfl 55 Iq 6 72 ZM underlying22 DM rfl ah (n+(Bk (Ab a)).nodes) ar ZN (by exact I.o.lst.kept (bs:=[]) (by exact cg cR) Zh) wr.heap.size (Ci T (nS c m d)) ZN rfl (by intro j v hv;exact((Ac.new wr (Ci T (nS c m d)) 55).cell j).trans hv) (IF _ _ c m d rfl) aw.o.1 aw.o.2 ?_);intro g cap w7 aO aH aP;have bi:=hZ aO;have ak:=hZ aH;have ay:=hZ aP;clear aO aH aP))
     go_ret;have bn:Chg w4 (wr.alloc (nC (Ci T (nS c m d)).toArray 55)) sv.ownBlock.toList:=L.o.alloc _
     have bo:Chg w4 w7 sv.ownBlock.toList:=bn.step ak.o (fun j hj hl=>by
      rcases aj.o j (by simpa using hj)with h|h
      .simpa using h
      .omega)
     have bG:=av.o.size;have bH:=L.o.size;have bz:=ak.o.size;simp only[World.size_alloc]at bz
     have aL:BZ G5 wr w7:=by
      have W:Chg wr w7 _:=((Chg.refl wr []).alloc (nC (Ci T (nS c m d)).toArray 55)).none _|>.trans ak.o;exact W.keepsF I.o.ltG (fun b E Y=>(I.o.own b zX).2 Y)
     refine⟨_,G5,ar++Ci T (nS c m d),rfl, ?_, ?_,av.o.none _|>.trans bo, ?_,fun b J=>ai.o b (a8.o b J),fun b J hl=>a9.o b (au.o b J Zj) hl,fun b J=>by have:=I.o.ltG b J;omega, ?_⟩
     .have e:n+(Ag a).nodes=n+(Bk (Ab a)).nodes+1:=by rw[bj.o];omega
      rw[e];exact bi.o
     .rw[Ea,<-List.append_assoc];refine(AR.kept aL (fun _ h=>h) _ _ I.o.at_).append ?_;rw[<-ba.o];refine AR.one T _ ?_;have bu:=aA.o.kept (w':=wr) (G:=G5) (L.o.keepsF H.o.ltG (fun b E Y=>(H.o.own b zX).2 Y)) ai.o;exact bu.kept aL (fun _ h=>h)
     .intro g' aa;simp[Vl.ownBlock]at aa;subst aa;rcases ay.o with h|h
      .rcases aj.o _ h with h|h
       .exact .inl h
       .exact .inr Zj
      .simp at h;exact .inr Zj
     .intro g' aa;simp[Vl.ownBlock]at aa;subst aa;rcases ay.o with h|h
      .exact(I.o.own _ h).2
      .intro Y;have:=I.o.ltG _ Y;simp at h;omega
def IV(t:Tr)(w:Wl)(e:Ending)(w':Wl):Prop:=
 ∃g cap G a,e= nR (nS (nM ⟨g,0,nN⟩) (Ag t).nodes cap)/\Ba w' (nS (nM ⟨g,0,nN⟩) (Ag t).nodes cap) 55 6 (Ag t).nodes a/\AR w' G (Ai t) a/\Chg w w' []/\w.heap.size<=g/\(∀b,G b->b<w'.heap.size)
theorem Vs(F:Nat->Prop)(t:Tr)(v:Vl)(w:Wl)(j:Af w F t v)(f:∀k,F k->k<w.heap.size)(H:(Ag t).nodes<=4294967296):
  Cl prog 40 #[nA #[v]] w (IV t w):=by
 obtain⟨l,x,rfl⟩:=j.iface;have c:Chg w (w.alloc (nC #[nF l x] 88)) []:=(Chg.refl w []).alloc _
 have y:=hZ (Tj (Ag t).nodes t F (fun _=>False) (nF l x) (nS nN 0 0) 0 [] [] (w.alloc (nC #[nF l x] 88)) (Q8 _) Zj (Af.kept (c.keepsF f) (fun _ h=>h) _ _ j)
  ⟨fun b i=>Q6 (f b i) c.size,Ba.nil _ _ _,rfl,fun g E=>(by cases E),fun b i=>i.elim⟩)
 have m:=hZ c;have o:=Cv t;have u:=hZ o;clear j f c o H;go_enter func40,ntmps40;go_wp2_with fail;refine y.o.mono ?_;rintro e L ⟨sv,G,xs,rfl,d,p,q,r,I,J,s,K⟩;rw[Nat.zero_add]at d;obtain⟨a,cap,rfl,n⟩:=d.form;obtain⟨g,rfl⟩:=n u.o;have z:=hZ d;have A:=hZ p;have B:=hZ q;have C:=hZ r;have D:=hZ s;clear d p q r I J s K n;go_wp2_with fail;go_ret;refine⟨g,cap,G,xs,rfl,z.o,A.o,m.o.fresh B.o (by simp[Vl.ownBlock]), ?_,D.o⟩;rcases C.o g rfl with h|h
 .simp[Vl.ownBlock]at h
 .have:=m.o.size;omega
theorem TY(F:Nat->Prop)(c:Nat)(t:Tr)(w:Wl)(A:CG w F c t)(i:∀k,F k->k<w.heap.size)(C:(Ag t).nodes<=4294967296):
  Cl prog 20 #[nP (nM ⟨c,0,nN⟩)] w (IV t w):=by
 obtain⟨v,l,b,j⟩:=A;have r:=hZ (IG F c v w l b.iface j);have q:=hZ b;have d:=hZ i;clear l b j i;go_enter func20,ntmps20;go_wp2_with fail;refine r.o.mono ?_;rintro e E ⟨rfl,a⟩;have f:=hZ a;have s:=hZ (Vs F t v E (Af.kept (a.keepsF d.o) (fun _ h=>h) _ _ q.o) (fun k B=>Q6 (d.o k B) a.size) C);clear a;go_wp2_with fail;refine s.o.mono ?_;rintro e w2 ⟨g,cap,G,xs,rfl,m,n,o,D,p⟩;have u:=hZ m;have x:=hZ n;have y:=hZ o;have z:=hZ p;clear m n o p;go_wp2_with fail;go_ret;exact⟨g,cap,G,xs,rfl,u.o,x.o,f.o.trans y.o,Q7 f.o.size D,z.o⟩
end
section
open Go Go.RowKit Tree
def LP(w:Wl)(F:Nat->Prop)(a:Option Addr)(xs:List Vl):Prop:=xs=[]\/∃b o,a=nM ⟨b,o,nN⟩/\F b/\∀i v,xs[i]? =nM v->w.cell? ⟨b,o+i,nN⟩=nM v
mutual
def AL (w:Wl) (F:Nat->Prop):Tr->List Vl->Prop
 | .null,cs=>∃la lc ka kc,cs=vC 1 false 0 Dz (nS la 0 lc) (nS ka 0 kc)
 | .flag b,cs=>∃la lc ka kc,cs=vC 2 b 0 Dz (nS la 0 lc) (nS ka 0 kc)
 | .num n,cs=>∃la lc ka kc,cs=vC 3 false n Dz (nS la 0 lc) (nS ka 0 kc)
 | .text s,cs=>∃la lc ka kc,cs=vC 4 false 0 s (nS la 0 lc) (nS ka 0 kc)
 | .list l,cs=>∃la lc ka kc xs,cs=vC 5 false 0 Dz (nS la l.length lc) (nS ka 0 kc)/\LP w F la xs/\Aq w F l xs/\l.length<=lc
 | .obj ks l,cs=>∃la lc ka kc xs,cs=vC 6 false 0 Dz (nS la l.length lc) (nS ka ks.length kc)/\ks.length=l.length/\Ax w F (nS ka ks.length kc) (Ad ks)/\LP w F la xs/\Aq w F l xs
def Aq (w:Wl) (F:Nat->Prop):List Tr->List Vl->Prop
 |[],xs=>xs=[]
 |t::l,xs=>∃c r,xs=c++r/\AL w F t c/\Aq w F l r
end
theorem LP.kept{w w':Wl}{F G:Nat->Prop}{c:Option Addr}{xs:List Vl}(h:LP w F c xs)(g:BZ F w w')(f:∀b,F b->G b):LP w' G c xs:=by
 rcases h with h|⟨b,o,d,a,e⟩
 .exact .inl h
 .exact .inr ⟨b,o,d,f b a,fun i v j=>(g b _ a).trans (e i v j)⟩
mutual
theorem AL.kept {w w':Wl} {F G:Nat->Prop} (hk:BZ F w w') (hF:∀b,F b->G b):∀(t:Tr) (v:List Vl),AL w F t v->AL w' G t v
 | .null,_,h=>by simp only[AL]at h|-;exact h
 | .flag _,_,h=>by simp only[AL]at h|-;exact h
 | .num _,_,h=>by simp only[AL]at h|-;exact h
 | .text _,_,h=>by simp only[AL]at h|-;exact h
 | .list l,v,h=>by
  simp only[AL]at h|-;obtain⟨la,lc,ka,kc,xs,h1,h2,h3,h4⟩:=h;exact⟨la,lc,ka,kc,xs,h1,h2.kept hk hF,Aq.kept hk hF l xs h3,h4⟩
 | .obj ks l,v,h=>by
  simp only[AL]at h|-;obtain⟨la,lc,ka,kc,xs,h1,h0,h2,h3,h4⟩:=h;exact⟨la,lc,ka,kc,xs,h1,h0,h2.kept hk hF,h3.kept hk hF,Aq.kept hk hF l xs h4⟩
theorem Aq.kept {w w':Wl} {F G:Nat->Prop} (hk:BZ F w w') (hF:∀b,F b->G b):∀(l:List Tr) (xs:List Vl),Aq w F l xs->Aq w' G l xs
 |[],_,h=>by simp only[Aq]at h|-;exact h
 |t::l,xs,h=>by
  simp only[Aq]at h|-;obtain⟨c,r,h1,h2,h3⟩:=h;exact⟨c,r,h1,AL.kept hk hF t c h2,Aq.kept hk hF l r h3⟩
end
variable{cs:List Vl}{F:Nat->Prop}{t:Tr}{w:Wl}
theorem AL.uni(h:AL w F t cs):
  ∃d e a c xs,cs=vC (Aa t).sort (Aa t).flag (Aa t).bits (Aa t).text (nS d (Ab t).length e) (nS a (Aa t).keys.length c)/\
   Ax w F (nS a (Aa t).keys.length c) (Ad (Aa t).keys)/\LP w F d xs/\Aq w F (Ab t) xs/\(Aa t).count=(if(Aa t).sort=5 then(Ab t).length else 0):=by
 cases t with
 |null=>simp only[AL]at h;obtain⟨d,e,a,c,rfl⟩:=h;exact⟨d,e,a,c,[],rfl,.inl ⟨rfl,_,_,rfl⟩,.inl rfl,by simp[Ab,Aq],rfl⟩
 |flag b=>simp only[AL]at h;obtain⟨d,e,a,c,rfl⟩:=h;exact⟨d,e,a,c,[],rfl,.inl ⟨rfl,_,_,rfl⟩,.inl rfl,by simp[Ab,Aq],rfl⟩
 |num n=>simp only[AL]at h;obtain⟨d,e,a,c,rfl⟩:=h;exact⟨d,e,a,c,[],rfl,.inl ⟨rfl,_,_,rfl⟩,.inl rfl,by simp[Ab,Aq],rfl⟩
 |text s=>simp only[AL]at h;obtain⟨d,e,a,c,rfl⟩:=h;exact⟨d,e,a,c,[],rfl,.inl ⟨rfl,_,_,rfl⟩,.inl rfl,by simp[Ab,Aq],rfl⟩
 |list l=>simp only[AL]at h;obtain⟨d,e,a,c,xs,rfl,f,g,_⟩:=h;exact⟨d,e,a,c,xs,rfl,.inl ⟨rfl,_,_,rfl⟩,f,g,rfl⟩
 |obj ks l=>simp only[AL]at h;obtain⟨d,e,a,c,xs,rfl,_,f,g,i⟩:=h;exact⟨d,e,a,c,xs,rfl,f,g,i,rfl⟩
theorem AL.length(h:AL w F t cs):cs.length=6:=by
 obtain⟨_,_,_,_,_,rfl,_⟩:=h.uni;rfl
theorem Aq.get:∀{l:List Tr} {xs:List Vl},Aq w F l xs->∀(i:Nat) (t:Tr),l[i]? =nM t->∃c,AL w F t c/\∀j v,c[j]? =nM v->xs[6*i+j]? =nM v
 |[],_,_,i,t,a=>by simp at a
 |p::l,xs,h,i,t,a=>by
  simp only[Aq]at h;obtain⟨c,r,f,d,g⟩:=h;subst f;cases i with
  |zero=>
   simp at a;subst a;refine⟨c,d,fun j v b=> ?_⟩;have k:j<c.length:=(Qc.1 b).1;rw[Nat.mul_zero,Nat.zero_add,List.getElem?_append_left k,b]
  |succ i=>
   obtain⟨e,m,n⟩:=g.get i t (by simpa using a);have o:=d.length;refine⟨e,m,fun j v b=> ?_⟩;rw[List.getElem?_append_right Zj,<-n j v b]
   congr 1
   omega
theorem Aq.length:∀{l:List Tr} {xs:List Vl},Aq w F l xs->xs.length=6*l.length
 |[],xs,h=>by simp only[Aq]at h;subst h;rfl
 |t::l,xs,h=>by
  simp only[Aq]at h;obtain⟨c,r,a,b,d⟩:=h;subst a;have:=b.length;have:=d.length;simp;omega
theorem Ba.rowN{a:Option Addr}{n c sz:Nat}{e:Ti}{xs:List Vl}(h:Ba w (nS a n c) e sz n xs)(f:xs.length=n*sz)(l:∀g,(Vl.slice a n c).ownBlock=nM g->F g):LP w F a xs:=by
 by_cases d:xs=[]
 .exact .inl d
 .obtain⟨p,q,j,m⟩:=h.form;injection j with k _ _
  subst k
  obtain⟨g,rfl⟩:=m (by
   rcases Nat.eq_zero_or_pos n with b|b
   .rw[b,Nat.zero_mul]at f;exact absurd (List.eq_nil_of_length_eq_zero f) d
   .exact b)
  exact .inr ⟨g,0,rfl,l g rfl,fun i v o=>by rw[Nat.zero_add];exact h.cell rfl i v o⟩
end
section
open _root_.Go.Proofs.Tryz
open Go Go.RowKit Tree
variable{i:Nat}{t:Tr}
def PN:Vl:= nA #[nI nX 0,.bool false,nI .u64 0,nG ⟨#[]⟩,nI nX 0,nS nN 0 0]
theorem GO:(prog.info? 106).map (fun i=>(i.zero,i.size,i.bytes))=nM (nM PN,6,72):=Yb
theorem YU(t:Tr):Ag t=⟨1+(Bk (Ab t)).nodes,(Aa t).text.size+Ay (Aa t).keys+(Bk (Ab t)).bytes,(Bk (Ab t)).depth+1⟩:=by
 cases t<;>simp[Ag,Ab,Aa,Bk,Sz.over,Ay,Dz]<;>rfl
theorem AL.keysLen{w:Wl}{F:Nat->Prop}{cs:List Vl}(h:AL w F t cs):(Aa t).keys.length<=(Ab t).length:=by
 cases t with
 |obj ks l=>simp only[AL]at h;obtain⟨_,_,_,_,_,_,a,_⟩:=h;exact Nat.le_of_eq a
 |_=>simp[Aa]
theorem PJ(l:List Tr)(i:Nat):(Bk (l.take i)).nodes<=(Bk l).nodes/\(Bk (l.take i)).bytes<=(Bk l).bytes/\(Bk (l.take i)).depth<=(Bk l).depth:=by
 have h:=congrArg (fun s=>Bk s) (List.take_append_drop i l);simp only[G4,Sz.add]at h;rw[<-h];exact⟨Zh,Zh,by simp;omega⟩
theorem Zu{l:List Tr}(h:l[i]? =nM t):(Ag t).nodes<=(Bk l).nodes/\(Ag t).bytes<=(Bk l).bytes/\(Ag t).depth<=(Bk l).depth:=by
 have a:=PJ l (i+1);rw[BM h]at a;simp only[Sz.add]at a;omega
theorem FH{ks:List BY}{s:BY}(h:ks[i]? =nM s):Ay (ks.take (i+1))=Ay (ks.take i)+s.size:=by
 unfold Ay;rw[List.take_add_one,h];simp
theorem OV(ks:List BY)(i:Nat):Ay (ks.take i)<=Ay ks:=by
 have h:=congrArg Ay (List.take_append_drop i ks);unfold Ay at*;simp only[List.map_append,List.sum_append]at h;omega
theorem XA:∀(k:Nat) (t:Tr) (F:Nat->Prop) (cs:List Vl) (w:Wl),(Ag t).nodes<=k->(Ag t).nodes<=1099511627776->(Ag t).bytes<=1152921504606846976->(Ag t).depth<=1099511627776->AL w F t cs->(∀b,F b->b<w.heap.size)->
  Cl prog 122 #[nA cs.toArray] w fun e w'=>e= nR (nT #[nI nX (Ag t).nodes,nI nX (Ag t).bytes,nI nX (Ag t).depth])/\Chg w w' []:=by
 intro k;induction k with
 |zero=>intro t _ _ _ h;have:=Cv t;omega
 |succ k ih=>
  intro t F cs w hk aN aI aK I hF;have IH:=hZ ih;have R:=hZ hF;obtain⟨la,lc,ka,kc,xs,rfl,aw,ay,aA,_⟩:=I.uni;have f:=YU t;have ae:=Bj t;have O:=I.keysLen;have V:=hZ aw;have aF:=hZ ay;have Y:=hZ aA;have au:∀i u,(Ab t)[i]? =nM u->(Ag u).nodes<(Ag t).nodes:=fun i u h=>CO h;have aj:=hZ au;obtain⟨a,ar⟩:=Ue (Aa t);obtain⟨L,hL⟩:=Ue (Ab t);rw[<-ar]at V f O|-;rw[<-hL]at Y f ae aj O|-
  have aJ:(Bk L).nodes<=1099511627776/\(Bk L).bytes<=1152921504606846976/\(Bk L).depth<=1099511627776/\a.text.size+Ay a.keys+(Bk L).bytes<=1152921504606846976:=by
   have d:=congrArg Sz.nodes f;have h2:=congrArg Sz.bytes f;have h3:=congrArg Sz.depth f;simp only at d h2 h3;omega
  obtain⟨aP,aQ,aR,aH⟩:=aJ;have ak:=hZ f;obtain⟨B,af⟩:=Ue L.length;rw[<-af]at ae O|-;have W:=hZ af;obtain⟨p,ab⟩:=Ue a.keys.length;rw[<-ab]at V O|-;have T:=hZ ab;obtain⟨N,hN⟩:=Ue ((Ag t).nodes);rw[<-hN]at ae hk aN;have aV:a.text.size<=1152921504606846976:=Zj;have aU:p<=1099511627776:=Zj;clear ih I hF aw ay aA ar af ab au f hL aI aK;obtain⟨w0,A⟩:=Ue (w.alloc (nC (vC a.sort a.flag a.bits a.text (nS la B lc) (nS ka p kc)).toArray 29));have Z:Hid (Ac w0 w.heap.size (vC a.sort a.flag a.bits a.text (nS la B lc) (nS ka p kc)) 29):=by rw[A];exact hZ (Ac.new _ _ _)
  have C:Hid (Chg w w0 []):=by rw[A];exact hZ ((Chg.refl w []).alloc _)
  have aB:w0.heap.size=w.heap.size+1:=by rw[A];simp
  have aO:=hZ aB;rw[Jy]at A;have HW:=hZ A;obtain⟨a0,aZ,y0,y1,y2,y3,y4,y5⟩:=Z.o.cells6;clear A aB;rw[Jy];go_enter func122,ntmps122;go_wp2_with fail;rw[<-HW.o];go_quiet(fail);go_wp2_with fail;go_loopw [6,8] (fun v6 v8 wr=>∃i:Nat,i<=p/\v8= nI nX i/\v6= nI nX (a.text.size+Ay (a.keys.take i):Nat)/\Chg w0 wr []) (fun _ v8 _=>p-(intOf v8).toNat)
  case atStart=>exact⟨0,Zj,rfl,by simp[Ay],by exact cg cR⟩
  case round=>
   obtain⟨i,hi,rfl,rfl,m⟩:=hrel;have J:=hZ (Z.o.kept m);obtain⟨xl,xf,x0,x1,x2,x3,x4,x5⟩:=J.o.cells6;have S:=hZ m;clear m;by_cases ad:i<p
   .obtain⟨s,ag⟩:∃s,a.keys[i]? =nM s:=⟨_,Q9 (by rw[<-T.o];exact ad)⟩;have z:=FH ag;have aM:=OV a.keys (i+1)
    obtain⟨b,o,aL,al,D⟩:∃b o,ka=nM ⟨b,o,nN⟩/\F b/\w.cell? ⟨b,o+i,nN⟩=nM (nG s):=by
     rcases V.o with⟨h,_⟩|⟨b,o,c,d,h2,h3⟩
     .exfalso;have d:=congrArg List.length h;rw[Ao]at d;have:=T.o;simp only[List.length_nil]at d;omega
     .injection d with d _ _
      exact⟨b,o,d,h2,h3 i _ (by simp[Ad,ag])⟩
    subst aL;have K:=(C.o.trans S.o).keeps D;obtain⟨M,y⟩:=Ue (a.text.size+Ay (a.keys.take i));have am:a.text.size+Ay (a.keys.take (i+1))=M+s.size:=by rw[z,y];omega
    have aS:M+s.size<=1152921504606846976:=Zj;rw[<-y];have aD:=hZ am;clear y am z aM ag D;go_wp2_with fail;go_roundw
    case rel=>exact⟨i+1,Zj,by go_num,by rw[aD.o];go_num,by exact cg S.o⟩
    case measure=>simp[intOf];omega
   .obtain rfl:i=p:=by omega
    have E:a.keys.take i=a.keys:=Qn (by rw[T.o];exact Q8 _);rw[E];obtain⟨M,y⟩:=Ue (a.text.size+Ay a.keys);rw[<-y]at aH ak|-;clear E y;go_wp2_with fail;go_loopw [5,6,7,9] (fun v5 v6 v7 v9 wr=>∃j:Nat,j<=B/\v9= nI nX j/\v5= nI nX (1+(Bk (L.take j)).nodes:Nat)/\v6= nI nX (M+(Bk (L.take j)).bytes:Nat)/\v7= nI nX (Bk (L.take j)).depth/\Chg w0 wr []) (fun _ _ _ v9 _=>B-(intOf v9).toNat)
    case atStart=>exact⟨0,Zj,rfl,by simp[Bk],by simp[Bk],by simp[Bk],by exact cg S.o⟩
    case round=>
     obtain⟨j,hj,rfl,rfl,rfl,rfl,m⟩:=hrel;clear xl xf x0 x1 x2 x3 x4 x5 J;have J:=hZ (Z.o.kept m);obtain⟨xl,xf,x0,x1,x2,x3,x4,x5⟩:=J.o.cells6;have r:=hZ m;clear m;have az:=PJ L j;obtain⟨nj,n⟩:=Ue ((Bk (L.take j)).nodes);obtain⟨bj,g⟩:=Ue ((Bk (L.take j)).bytes);obtain⟨dj,l⟩:=Ue ((Bk (L.take j)).depth);rw[<-n,<-g,<-l]at az|-;obtain⟨aW,aX,aY⟩:=az;by_cases ad:j<B
     .obtain⟨u,H⟩:∃u,L[j]? =nM u:=⟨_,Q9 (by rw[<-W.o];exact ad)⟩;obtain⟨c,K,ao⟩:=Y.o.get j u H;have f:=aj.o j u H;have aa:=Zu H;have an:=K.length;have ah:=Y.o.length;have G:=PJ L (j+1);have z:=BM H;rw[z]at G;simp only[Sz.add,<-n,<-g,<-l]at G
      obtain⟨b,o,rfl,al,D⟩:∃b o,la=nM ⟨b,o,nN⟩/\F b/\∀i v,xs[i]? =nM v->w.cell? ⟨b,o+i,nN⟩=nM v:=by
       rcases aF.o with h|h
       .exfalso;rw[h]at ah;simp at ah;have:=W.o;omega
       .exact h
      have aT:=R.o b al
      have ax:wr.rangeAt b (o+j*6) c:=fun q v I=>by
       have d:=D _ _ (ao q v I);rw[show o+j*6+q=o+(6*j+q)from by omega];exact(C.o.trans r.o).keeps d
      have aE:=hZ ax;have HC:=hZ (AL.kept ((C.o.trans r.o).keepsF R.o) (fun _ h=>h) _ _ K);have av:(prog.info? 29).map (·.size)=nM c.length:=by rw[an];exact A9
      have aC:=hZ av;have aG:=UD (∀b,F b->b<wr.heap.size) fun b hb=>Q6 (R.o b hb) (C.o.trans r.o).size;have X:=hZ (IH.o u F c wr Zj Zj Zj Zj HC.o aG.o);have P:Bk (L.take (j+1))=⟨nj+(Ag u).nodes,bj+(Ag u).bytes,max dj (Ag u).depth⟩:=by rw[z];simp only[Sz.add,<-n,<-g,<-l]
      obtain⟨U,hU⟩:=Ue (Ag u);rw[<-hU]at X P G aa;obtain⟨u1,u2,u3⟩:=U;simp only at X P G aa;obtain⟨g1,g2,g3⟩:=aa;obtain⟨k1,k2,k3⟩:=G;have x:=hZ P;clear H K ao f an ah D ax av z P hU n g l
      go_wp2_with(first
       |(refine wpList_load_mid rfl _ _ rfl b (o+j*6) ZN c _ aE.o underlying29 rfl aC.o ?_))
      refine X.o.mono ?_;rintro e w6 ⟨rfl,aq⟩;have ai:=hZ aq;clear aq;by_cases ap:dj<u3
      .go_wp2_with fail;go_roundw
       case rel=>exact⟨j+1,Zj,by go_num,by rw[x.o];go_num,by rw[x.o];go_num,by rw[x.o];simp only[Nat.max_eq_right (Nat.le_of_lt ap)],r.o.trans ai.o⟩
       case measure=>simp[intOf];omega
      .go_wp2_with fail;go_roundw
       case rel=>exact⟨j+1,Zj,by go_num,by rw[x.o];go_num,by rw[x.o];go_num,by rw[x.o];simp only[Nat.max_eq_left (Nat.le_of_not_lt ap)],r.o.trans ai.o⟩
       case measure=>simp[intOf];omega
     .obtain rfl:j=B:=by omega
      have E:L.take j=L:=Qn (by rw[W.o];exact Q8 _);have e1:(Ag t).nodes=1+nj/\(Ag t).bytes=M+bj/\(Ag t).depth=dj+1:=by rw[E]at n g l;rw[ak.o,n,g,l];exact⟨rfl,rfl,rfl⟩
      have Q:=hZ e1;clear E e1 n g l hN;go_wp2_with fail;refine bodyPost_ret (results_tmp3 rfl _ _ _) rfl ?_;rw[Q.o.1,Q.o.2.1,Q.o.2.2];exact⟨by go_num,C.o.trans r.o⟩
theorem Ex(t:Tr)(F:Nat->Prop)(cs:List Vl)(w:Wl)(m:(Ag t).nodes<=1099511627776)(a:(Ag t).bytes<=1152921504606846976)(l:(Ag t).depth<=1099511627776)(f:AL w F t cs)(d:∀b,F b->b<w.heap.size):
  Cl prog 95 #[nA cs.toArray] w fun e w'=>e= nR (.bool (Ag t).within)/\Chg w w' []:=by
 have c:=hZ fun w' (h:Chg w w' [])=>XA _ t F cs w' (Q8 _) m a l (AL.kept (h.keepsF d) (fun _ h=>h) _ _ f) (fun b a=>Q6 (d b a) h.size);obtain⟨u,v,r,s,xs,rfl,_⟩:=f.uni;obtain⟨o,g⟩:=Ue ((Ag t).nodes);obtain⟨p,i⟩:=Ue ((Ag t).bytes);obtain⟨q,j⟩:=Ue ((Ag t).depth);have k:(Ag t).within=(decide (o<=65536)&&decide (p<=2097152)&&decide (q<=512)):=by unfold Sz.within;rw[g,i,j]
 rw[k];rw[<-g,<-i,<-j]at c;rw[Jy]at c|-;clear f d g i j k m a l;go_enter func95,ntmps95;go_wp2_with(first|(go_at_call 122;refine(c.o _ (by exact cg cR)).mono ?_;rintro e x ⟨rfl,n⟩));all_goals go_ret
 all_goals refine⟨Bo ?_,((Chg.refl w []).alloc _).trans n⟩
 all_goals go_light
 all_goals(rw[Bool.eq_iff_iff];simp;omega)
end
end Go.Proofs.YtamgbmcchhmojaaGreatDoor

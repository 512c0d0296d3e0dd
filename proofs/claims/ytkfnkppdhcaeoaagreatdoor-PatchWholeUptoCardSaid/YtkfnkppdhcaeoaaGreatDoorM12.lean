/- Part 12 of the proof of patchJoined_card. -/
import Derived.Test.YtkfnkppdhcaeoaaGreatDoorM11
set_option maxRecDepth 100000
set_option maxHeartbeats 32000000
set_option linter.unusedSimpArgs false
set_option linter.unusedVariables false
set_option linter.unnecessarySimpa false
namespace Go.Proofs.YtkfnkppdhcaeoaaGreatDoor
open Go renaming Calls->Cl,Value->Vl,World->Wl
section
open _root_.Go.Proofs.Tryz
open Go Go.RowKit Tree
def Iq:Vl:= .agg #[.int .i64 0,.bool false,.int .u64 0,.string ⟨#[]⟩,.int .i64 0,.slice none 0 0]
theorem DM:(prog.info? 72).map (fun i=>(i.zero,i.size,i.bytes))=some (some Iq,6,72):=by kernel_rfl
def NR(F G:Nat->Prop)(sv:Vl)(n:Nat)(l:List Aw)(t:Tr)(w:Wl)(e:Ending)(w':Wl):Prop:=
 ∃c a d,e= .returned c/\Ba w' c 72 6 (n+(Ag t).nodes) d/\AR w' a (l++Ai t) d/\Chg w w' sv.ownBlock.toList/\
  (∀g,c.ownBlock=some g->sv.ownBlock=some g\/w.heap.size<=g)/\(∀b,G b->a b)/\(∀b,a b->b<w.heap.size->G b)/\(∀b,a b->b<w'.heap.size)/\(∀g,c.ownBlock=some g->¬a g)
structure Dw(F G:Nat->Prop)(sv:Vl)(n:Nat)(l:List Aw)(xs:List Vl)(w:Wl):Prop where
 ltF:∀b,F b->b<w.heap.size
 lst:Ba w sv 72 6 n xs
 at_:AR w G l xs
 own:∀g,sv.ownBlock=some g->¬F g/\¬G g
 ltG:∀b,G b->b<w.heap.size
theorem Dw.kept{F G:Nat->Prop}{sv:Vl}{n:Nat}{l:List Aw}{xs:List Vl}{w w':Wl}(h:Dw F G sv n l xs w)(a:Chg w w' []):Dw F G sv n l xs w':=
 ⟨fun b c=>Q6 (h.ltF b c) a.size,h.lst.kept a,AR.kept (a.keepsF h.ltG) (fun _ h=>h) _ _ h.at_,h.own,fun b c=>Q6 (h.ltG b c) a.size⟩
theorem La(t:Tr):(Ag t).nodes=(Bk (Ab t)).nodes+1:=by
 rw[<-BL,Ea,<-CS];simp
theorem M4(l:List Tr)(i:Nat):(Bk (l.take i)).nodes<=(Bk l).nodes:=by
 have h:=congrArg (fun s=>(Bk s).nodes) (List.take_append_drop i l);simp only[G4,Sz.add]at h;omega
def Do(G:Nat->Prop)(sv:Vl)(n:Nat)(l:List Aw)(ts:List Tr)(w:Wl)(i:Nat)(c:Vl)(wr:Wl):Prop:=
 ∃a d,Ba wr c 72 6 (n+(Bk (ts.take i)).nodes) d/\AR wr a (l++BI (ts.take i)) d/\Chg w wr sv.ownBlock.toList/\
  (∀g,c.ownBlock=some g->sv.ownBlock=some g\/w.heap.size<=g)/\(∀b,G b->a b)/\(∀b,a b->b<w.heap.size->G b)/\(∀b,a b->b<wr.heap.size)/\(∀g,c.ownBlock=some g->¬a g)
theorem Do.start{F G:Nat->Prop}{sv:Vl}{n:Nat}{l:List Aw}{xs:List Vl}{ts:List Tr}{w:Wl}(h:Dw F G sv n l xs w):Do G sv n l ts w 0 sv w:=
 ⟨G,xs,by simpa[Bk]using h.lst,by simpa[BI]using h.at_,Chg.none cR _,fun g a=> .inl a,fun _ h=>h,fun _ h _=>h,h.ltG,fun g a=>(h.own g a).2⟩
theorem Do.inn{F G:Nat->Prop}{sv d:Vl}{n i:Nat}{l:List Aw}{xs:List Vl}{ts:List Tr}{w wr:Wl}(c:Dw F G sv n l xs w)(h:Do G sv n l ts w i d wr):
  ∃a e,Dw F a d (n+(Bk (ts.take i)).nodes) (l++BI (ts.take i)) e wr/\(∀b,G b->a b)/\(∀b,a b->b<w.heap.size->G b)/\Chg w wr sv.ownBlock.toList/\(∀g,d.ownBlock=some g->sv.ownBlock=some g\/w.heap.size<=g):=by
 obtain⟨a,e,o,p,f,j,q,r,s,t⟩:=h;refine⟨a,e,⟨fun b u=>Q6 (c.ltF b u) f.size,o,p,fun g m=>⟨fun k=> ?_,t g m⟩,s⟩,q,r,f,j⟩
 rcases j g m with h|h
 .exact(c.own g h).1 k
 .have:=c.ltF g k;omega
theorem Do.next{F G c:Nat->Prop}{sv p:Vl}{n i:Nat}{l:List Aw}{xs:List Vl}{ts:List Tr}{w wr w':Wl}{u:Tr}{e:Ending}(H:Dw F G sv n l xs w)(q:∀b,G b->c b)(r:∀b,c b->b<w.heap.size->G b)(f:Chg w wr sv.ownBlock.toList)(m:∀g,p.ownBlock=some g->sv.ownBlock=some g\/w.heap.size<=g)(o:ts[i]? =some u)(h:NR F c p (n+(Bk (ts.take i)).nodes) (l++BI (ts.take i)) u wr e w'):∃a,e= .returned a/\Do G sv n l ts w (i+1) a w':=by
 obtain⟨a,G2,E,rfl,v,x,y,z,A,B,C,D⟩:=h;refine⟨a,rfl,G2,E, ?_, ?_, ?_, ?_,fun b d=>A b (q b d),fun b d k=>r b (B b d (Q6 k f.size)) k,C,D⟩
 .rw[BM o]
  have e:n+((Bk (ts.take i)).add (Ag u)).nodes=n+(Bk (ts.take i)).nodes+(Ag u).nodes:=by unfold Sz.add;simp[Nat.add_assoc]
  rw[e];exact v
 .rw[EA o,<-List.append_assoc];exact x
 .refine f.step y fun j t k=> ?_
  rcases m j (by simpa using t)with h|h
  .simpa using h
  .omega
 .intro g s
  rcases z g s with h|h
  .exact m g h
  .exact .inr (Q7 f.size h)
theorem Tj:∀(k:Nat) (t:Tr) (F G:Nat->Prop) (v sv:Vl) (n:Nat) (l:List Aw) (xs:List Vl) (w:Wl),(Ag t).nodes<=k->n+(Ag t).nodes<=4294967296->Af w F t v->Dw F G sv n l xs w->
  Cl prog 125 #[sv,v] w (NR F G sv n l t w):=by
 intro k
 induction k with
 |zero=>intro t _ _ _ _ _ _ _ _ h;have:=Cv t;omega
 |succ k ih=>
  intro a F G v sv n l xs w hk aW af aT;have IH:=hZ ih;have A:=hZ aT;have bd:=hZ af;obtain⟨f,args,E,hc⟩:=Sg a v af;have R:=hZ E;have Q:=hZ hc;have HK:=hZ hk;obtain⟨t,ht⟩:∃t,t=a:=⟨_,rfl⟩
  have D:Af w F t v:=ht▸af;have y:=hZ ht;clear ih aT E hc hk af ht;cases t
  case' null=>
   simp only[Af]at D;subst D;have V:∀(w:Wl),(Instr.typeAssert (.iface 214 (.agg #[])) 62 215 true).run prog w= .ok (.tuple #[.bool false,.bool false]) w:=fun _=>by kernel_rfl
   have a1:∀(w:Wl),(Instr.typeAssert (.iface 214 (.agg #[])) 62 219 true).run prog w= .ok (.tuple #[.float .f64 0,.bool false]) w:=fun _=>by kernel_rfl
   have a2:∀(w:Wl),(Instr.typeAssert (.iface 214 (.agg #[])) 62 220 true).run prog w= .ok (.tuple #[.string ⟨#[]⟩,.bool false]) w:=fun _=>by kernel_rfl
   have a3:∀(w:Wl),(Instr.typeAssert (.iface 214 (.agg #[])) 62 136 true).run prog w= .ok (.tuple #[.pointer none,.bool false]) w:=fun _=>by kernel_rfl
   have a4:∀(w:Wl),(Instr.typeAssert (.iface 214 (.agg #[])) 62 137 true).run prog w= .ok (.tuple #[.pointer none,.bool false]) w:=fun _=>by kernel_rfl
   go_enter func125,ntmps125
   go_upto_region 18 with(first|(refine Am rfl _ _ _ rfl _ rfl f args R.o _ Q.o ?_;rintro e s ⟨rfl,o⟩;refine⟨_,rfl, ?_⟩;rw[show Hj a=1 from by rw[<-y.o];rfl]))
   obtain⟨X,r⟩:∃X,X=s.heap.size:=⟨_,rfl⟩
   obtain⟨p,q⟩:∃x,x=s.alloc (.cells (Ci (Aa .null) (.slice none 0 0)).toArray 72):=⟨_,rfl⟩
   have C:Hid (Ac p X (Ci (Aa a) (.slice none 0 0)) 72):=by rw[q,r,<-y.o];exact hZ (Ac.new _ _ _)
   have B:Hid (Chg w p []):=by rw[q];exact hZ (o.alloc _)
   have Z:w.heap.size<=X:=by rw[r];exact o.size
   change Code.wp _ _ _ _ (s.alloc (.cells (Ci (Aa .null) (.slice none 0 0)).toArray 72));rw[<-q,<-r];obtain⟨d,c,m,z⟩:∃d c m,Vl.slice d c m=Vl.slice none 0 0:=⟨_,_,_,rfl⟩
   rw[<-z]at C
   have N:Hid (∃G2:Nat->Prop,Dw F G2 sv n l xs p/\Ax p G2 (.slice d c m) (Ad (Aa a).keys)/\(∀b,G b->G2 b)/\(∀b,G2 b->b<w.heap.size->G b)/\¬G2 X):=by
    refine hZ ⟨G,A.o.kept B.o, ?_,fun _ h=>h,fun _ h _=>h,fun h=>by have:=A.o.ltG X h;omega⟩;rw[z,<-y.o];exact Ax.empty _ _
   clear z q r o
  case' flag b=>
   simp only[Af]at D;subst D;have V:∀(w:Wl),(Instr.typeAssert (.iface 215 (.bool b)) 62 215 true).run prog w= .ok (.tuple #[.bool b,.bool true]) w:=fun _=>by kernel_rfl
   go_enter func125,ntmps125
   go_upto_region 18 with(first|(refine Am rfl _ _ _ rfl _ rfl f args R.o _ Q.o ?_;rintro e s ⟨rfl,o⟩;refine⟨_,rfl, ?_⟩;rw[show Hj a=2 from by rw[<-y.o];rfl]))
   obtain⟨X,r⟩:∃X,X=s.heap.size:=⟨_,rfl⟩
   obtain⟨p,q⟩:∃x,x=s.alloc (.cells (Ci (Aa (.flag b)) (.slice none 0 0)).toArray 72):=⟨_,rfl⟩
   have C:Hid (Ac p X (Ci (Aa a) (.slice none 0 0)) 72):=by rw[q,r,<-y.o];exact hZ (Ac.new _ _ _)
   have B:Hid (Chg w p []):=by rw[q];exact hZ (o.alloc _)
   have Z:w.heap.size<=X:=by rw[r];exact o.size
   change Code.wp _ _ _ _ (s.alloc (.cells (Ci (Aa (.flag b)) (.slice none 0 0)).toArray 72));rw[<-q,<-r];obtain⟨d,c,m,z⟩:∃d c m,Vl.slice d c m=Vl.slice none 0 0:=⟨_,_,_,rfl⟩
   rw[<-z]at C
   have N:Hid (∃G2:Nat->Prop,Dw F G2 sv n l xs p/\Ax p G2 (.slice d c m) (Ad (Aa a).keys)/\(∀b,G b->G2 b)/\(∀b,G2 b->b<w.heap.size->G b)/\¬G2 X):=by
    refine hZ ⟨G,A.o.kept B.o, ?_,fun _ h=>h,fun _ h _=>h,fun h=>by have:=A.o.ltG X h;omega⟩;rw[z,<-y.o];exact Ax.empty _ _
   clear z q r o
  case' num b=>
   simp only[Af]at D;subst D;have V:∀(w:Wl),(Instr.typeAssert (.iface 219 (.float .f64 b)) 62 215 true).run prog w= .ok (.tuple #[.bool false,.bool false]) w:=fun _=>by kernel_rfl
   have a1:∀(w:Wl),(Instr.typeAssert (.iface 219 (.float .f64 b)) 62 219 true).run prog w= .ok (.tuple #[.float .f64 b,.bool true]) w:=fun _=>by kernel_rfl
   have bF:=GX;go_enter func125,ntmps125
   go_upto_region 18 with(first|(refine Am rfl _ _ _ rfl _ rfl f args R.o _ Q.o ?_;rintro e s ⟨rfl,o⟩;refine⟨_,rfl, ?_⟩;rw[show Hj a=3 from by rw[<-y.o];rfl]))
   obtain⟨X,r⟩:∃X,X=s.heap.size:=⟨_,rfl⟩
   obtain⟨p,q⟩:∃x,x=s.alloc (.cells (Ci (Aa (.num b)) (.slice none 0 0)).toArray 72):=⟨_,rfl⟩
   have C:Hid (Ac p X (Ci (Aa a) (.slice none 0 0)) 72):=by rw[q,r,<-y.o];exact hZ (Ac.new _ _ _)
   have B:Hid (Chg w p []):=by rw[q];exact hZ (o.alloc _)
   have Z:w.heap.size<=X:=by rw[r];exact o.size
   change Code.wp _ _ _ _ (s.alloc (.cells (Ci (Aa (.num b)) (.slice none 0 0)).toArray 72));rw[<-q,<-r];obtain⟨d,c,m,z⟩:∃d c m,Vl.slice d c m=Vl.slice none 0 0:=⟨_,_,_,rfl⟩
   rw[<-z]at C
   have N:Hid (∃G2:Nat->Prop,Dw F G2 sv n l xs p/\Ax p G2 (.slice d c m) (Ad (Aa a).keys)/\(∀b,G b->G2 b)/\(∀b,G2 b->b<w.heap.size->G b)/\¬G2 X):=by
    refine hZ ⟨G,A.o.kept B.o, ?_,fun _ h=>h,fun _ h _=>h,fun h=>by have:=A.o.ltG X h;omega⟩;rw[z,<-y.o];exact Ax.empty _ _
   clear z q r o
  case' text b=>
   simp only[Af]at D;subst D;have V:∀(w:Wl),(Instr.typeAssert (.iface 220 (.string b)) 62 215 true).run prog w= .ok (.tuple #[.bool false,.bool false]) w:=fun _=>by kernel_rfl
   have a1:∀(w:Wl),(Instr.typeAssert (.iface 220 (.string b)) 62 219 true).run prog w= .ok (.tuple #[.float .f64 0,.bool false]) w:=fun _=>by kernel_rfl
   have a2:∀(w:Wl),(Instr.typeAssert (.iface 220 (.string b)) 62 220 true).run prog w= .ok (.tuple #[.string b,.bool true]) w:=fun _=>by kernel_rfl
   go_enter func125,ntmps125
   go_upto_region 18 with(first|(refine Am rfl _ _ _ rfl _ rfl f args R.o _ Q.o ?_;rintro e s ⟨rfl,o⟩;refine⟨_,rfl, ?_⟩;rw[show Hj a=4 from by rw[<-y.o];rfl]))
   obtain⟨X,r⟩:∃X,X=s.heap.size:=⟨_,rfl⟩
   obtain⟨p,q⟩:∃x,x=s.alloc (.cells (Ci (Aa (.text b)) (.slice none 0 0)).toArray 72):=⟨_,rfl⟩
   have C:Hid (Ac p X (Ci (Aa a) (.slice none 0 0)) 72):=by rw[q,r,<-y.o];exact hZ (Ac.new _ _ _)
   have B:Hid (Chg w p []):=by rw[q];exact hZ (o.alloc _)
   have Z:w.heap.size<=X:=by rw[r];exact o.size
   change Code.wp _ _ _ _ (s.alloc (.cells (Ci (Aa (.text b)) (.slice none 0 0)).toArray 72));rw[<-q,<-r];obtain⟨d,c,m,z⟩:∃d c m,Vl.slice d c m=Vl.slice none 0 0:=⟨_,_,_,rfl⟩
   rw[<-z]at C
   have N:Hid (∃G2:Nat->Prop,Dw F G2 sv n l xs p/\Ax p G2 (.slice d c m) (Ad (Aa a).keys)/\(∀b,G b->G2 b)/\(∀b,G2 b->b<w.heap.size->G b)/\¬G2 X):=by
    refine hZ ⟨G,A.o.kept B.o, ?_,fun _ h=>h,fun _ h _=>h,fun h=>by have:=A.o.ltG X h;omega⟩;rw[z,<-y.o];exact Ax.empty _ _
   clear z q r o
  case' list ll=>
   simp only[Af]at D;obtain⟨b,sl,vv,rfl,S,_,_,_,c3,T,hi⟩:=D;obtain⟨sa,sc,rfl,_⟩:=T.cell;have bk:=hZ hi.length;have lb:=A.o.ltF b S;clear T hi;have V:∀(w:Wl),(Instr.typeAssert (.iface 136 (.pointer (some ⟨b,0,none⟩))) 62 215 true).run prog w= .ok (.tuple #[.bool false,.bool false]) w:=fun _=>by kernel_rfl
   have a1:∀(w:Wl),(Instr.typeAssert (.iface 136 (.pointer (some ⟨b,0,none⟩))) 62 219 true).run prog w= .ok (.tuple #[.float .f64 0,.bool false]) w:=fun _=>by kernel_rfl
   have a2:∀(w:Wl),(Instr.typeAssert (.iface 136 (.pointer (some ⟨b,0,none⟩))) 62 220 true).run prog w= .ok (.tuple #[.string ⟨#[]⟩,.bool false]) w:=fun _=>by kernel_rfl
   have a3:∀(w:Wl),(Instr.typeAssert (.iface 136 (.pointer (some ⟨b,0,none⟩))) 62 136 true).run prog w= .ok (.tuple #[.pointer (some ⟨b,0,none⟩),.bool true]) w:=fun _=>by kernel_rfl
   go_enter func125,ntmps125
   go_upto_region 18 with(first|(refine Am rfl _ _ _ rfl _ rfl f args R.o _ Q.o ?_;rintro e s ⟨rfl,o⟩;refine⟨_,rfl, ?_⟩;rw[show Hj a=5 from by rw[<-y.o];rfl];have bm:=o.keeps c3;have bA:=Q6 lb o.size))
   rw[bk.o];obtain⟨X,r⟩:∃X,X=s.heap.size:=⟨_,rfl⟩
   obtain⟨p,q⟩:∃x,x=s.alloc (.cells (Ci (Aa (.list ll)) (.slice none 0 0)).toArray 72):=⟨_,rfl⟩
   have C:Hid (Ac p X (Ci (Aa a) (.slice none 0 0)) 72):=by rw[q,r,<-y.o];exact hZ (Ac.new _ _ _)
   have B:Hid (Chg w p []):=by rw[q];exact hZ (o.alloc _)
   have Z:w.heap.size<=X:=by rw[r];exact o.size
   change Code.wp _ _ _ _ (s.alloc (.cells (Ci (Aa (.list ll)) (.slice none 0 0)).toArray 72));rw[<-q,<-r];obtain⟨d,c,m,z⟩:∃d c m,Vl.slice d c m=Vl.slice none 0 0:=⟨_,_,_,rfl⟩
   rw[<-z]at C
   have N:Hid (∃G2:Nat->Prop,Dw F G2 sv n l xs p/\Ax p G2 (.slice d c m) (Ad (Aa a).keys)/\(∀b,G b->G2 b)/\(∀b,G2 b->b<w.heap.size->G b)/\¬G2 X):=by
    refine hZ ⟨G,A.o.kept B.o, ?_,fun _ h=>h,fun _ h _=>h,fun h=>by have:=A.o.ltG X h;omega⟩;rw[z,<-y.o];exact Ax.empty _ _
   clear z q r o
  case' obj kk ll=>
   simp only[Af]at D;obtain⟨b,bJ,sl,vv,rfl,S,aV,_,_,_,c3,T,_,_,_⟩:=D;obtain⟨sa,sc,rfl,_⟩:=T.cell;have HR:=hZ T;have lb:=A.o.ltF b S;have bg:=hZ aV;clear T aV;have V:∀(w:Wl),(Instr.typeAssert (.iface 137 (.pointer (some ⟨b,0,none⟩))) 62 215 true).run prog w= .ok (.tuple #[.bool false,.bool false]) w:=fun _=>by kernel_rfl
   have a1:∀(w:Wl),(Instr.typeAssert (.iface 137 (.pointer (some ⟨b,0,none⟩))) 62 219 true).run prog w= .ok (.tuple #[.float .f64 0,.bool false]) w:=fun _=>by kernel_rfl
   have a2:∀(w:Wl),(Instr.typeAssert (.iface 137 (.pointer (some ⟨b,0,none⟩))) 62 220 true).run prog w= .ok (.tuple #[.string ⟨#[]⟩,.bool false]) w:=fun _=>by kernel_rfl
   have a3:∀(w:Wl),(Instr.typeAssert (.iface 137 (.pointer (some ⟨b,0,none⟩))) 62 136 true).run prog w= .ok (.tuple #[.pointer none,.bool false]) w:=fun _=>by kernel_rfl
   have a4:∀(w:Wl),(Instr.typeAssert (.iface 137 (.pointer (some ⟨b,0,none⟩))) 62 137 true).run prog w= .ok (.tuple #[.pointer (some ⟨b,0,none⟩),.bool true]) w:=fun _=>by kernel_rfl
   go_enter func125,ntmps125
   go_upto_region 18 with(first
    |(refine Am rfl _ _ _ rfl _ rfl f args R.o _ Q.o ?_;rintro e s ⟨rfl,o⟩;refine⟨_,rfl, ?_⟩;rw[show Hj a=6 from by rw[<-y.o];rfl];have bm:=o.keeps c3;have bA:=Q6 lb o.size)
    |(go_at_call 42;(refine(DL F _ (Ad kk) _ (HR.o.kept ((o.alloc _).keepsF A.o.ltF) (fun _ h=>h)) (Gu kk) (by have:=Bj a;rw[<-y.o]at this;have h2:=aW;rw[<-y.o]at h2;simp only[Ab]at this;rw[Ao,bg.o];omega)).mono ?_);rintro e w2 ⟨sk,rfl,ae,al,am⟩;obtain⟨d,m,rfl,bv⟩:=ae.form;have U:=hZ ((Ac.new s (Ci ⟨6,false,0,Dz,0,[]⟩ (.slice none 0 0)) 72).kept am);have qf:∀j,w2.frozen? ⟨s.heap.size,j,none⟩=false:=(fun j=>U.o.frozen j);have q5:w2.cell? ⟨s.heap.size,5,none⟩=some (.slice none 0 0):=U.o.cell 5;have ql:=U.o.lt))
   obtain⟨c,a0⟩:∃c,c=(Ad kk).length:=⟨_,rfl⟩
   rw[<-a0]at ae al|-;obtain⟨X,r⟩:∃X,X=s.heap.size:=⟨_,rfl⟩
   obtain⟨p,q⟩:∃x,x=w2.setCell ⟨s.heap.size,5,none⟩ (.slice d c m):=⟨_,rfl⟩
   have C:Hid (Ac p X (Ci (Aa a) (.slice d c m)) 72):=by rw[q,r,<-y.o];exact hZ (U.o.set 5 _)
   have B:Hid (Chg w p []):=by rw[q];exact hZ (((o.alloc _).trans am).setCell _ _ (by have:=o.size;simp;omega))
   have Z:w.heap.size<=X:=by rw[r];exact o.size
   rw[<-q,<-r]
   have N:Hid (∃G2:Nat->Prop,Dw F G2 sv n l xs p/\Ax p G2 (.slice d c m) (Ad (Aa a).keys)/\(∀b,G b->G2 b)/\(∀b,G2 b->b<w.heap.size->G b)/\¬G2 X):=by
    have ag:∀g,(Vl.slice d c m).ownBlock=some g->s.heap.size<g:=fun g O=>by
     have:=al g O;simp at this;omega
    have aM:AK p (.slice d c m) 9 (Ad kk):=by
     rw[q];exact ae.kept (bs:=[s.heap.size]) ((Chg.refl _ _).setCell _ _ (by simp)) (fun g O=>by have:=ag g O;simp;omega)
    have K:=A.o.kept B.o;refine hZ ⟨fun b=>G b\/(Vl.slice d c m).ownBlock=some b,⟨K.ltF,K.lst,AR.kept (fun _ _ _=>rfl) (fun _ h=> .inl h) _ _ K.at_,fun g O=>⟨(K.own g O).1,fun h=> ?_⟩,fun b J=> ?_⟩, ?_,fun _ h=> .inl h,fun b J hl=> ?_,fun h=> ?_⟩
    .rcases h with h|h
     .exact(K.own g O).2 h
     .have W:=ag g h;have h2:=A.o.lst.lt O;have:=o.size;omega
    .rcases J with h|h
     .exact K.ltG b h
     .exact aM.lt h
    .rw[<-y.o]
     refine(AK.toRow aM).kept (fun _ _ _=>rfl) (fun b h=> .inr h)
    .rcases J with h|h
     .exact h
     .have:=ag b h;have:=o.size;omega
    .rcases h with h|h
     .have:=A.o.ltG X h;omega
     .have:=ag X h;omega
   clear q r o am ae al bv a0 U qf q5 ql
  all_goals
   obtain⟨G2,K,aZ,aJ,aK,bD⟩:=N.o;have ad:=hZ K;have az:=hZ aZ;have a8:=hZ aJ;have a9:=hZ aK;have ax:=hZ (Af.kept (B.o.keepsF A.o.ltF) (fun _ h=>h) _ _ bd.o);clear K aZ aJ aK N;go_wp2_with fail
   refine(ID F a _ p ax.o ad.o.ltF).mono ?_;rintro e w4 ⟨bK,P,rfl,aY,ao,ab⟩;obtain⟨ia,ic,rfl,aR⟩:=aY.cell;have a7:=hZ aR;have be:=hZ ao;have H:=hZ (ad.o.kept ab);have bl:=hZ (C.o.kept ab);have aA:=hZ (az.o.kept (ab.keepsF ad.o.ltG) (fun _ h=>h));have av:=hZ (B.o.trans ab);have a6:P.length=(Ab a).length:=ao.length;have bt:=Bj a;have bq:=HK.o;have aB:=hZ a6;have bG:P.length<=4294967296:=by omega
   clear aR ao ab aY a6 C B ad az ax;go_wp2_with fail
   go_loopw [0,55] (fun v0 aq wr=>∃(i:Nat) (ah:Vl),i<=P.length/\aq= .int .i64 i/\ah=v0/\Do G2 sv n l (Ab a) w4 i ah wr) (fun _ aq _=>P.length-(intOf aq).toNat)
   case atStart=>exact⟨0,sv,by omega,rfl,rfl,Do.start H.o⟩
   case round=>
    obtain⟨i,ah,hi,rfl,rfl,hL⟩:=hrel;obtain⟨G5,ar,aU,aD,aE,aF,aG⟩:=Do.inn H.o hL;have I:=hZ aU;have ai:=hZ aD;have au:=hZ aE;have M:=hZ aF;have aj:=hZ aG;have bB:=hZ hL;clear aU aD aE aF aG hL;by_cases br:i<P.length
    .obtain⟨u,hu⟩:∃u,(Ab a)[i]? =some u:=⟨_,Q9 (by rw[<-aB.o];exact br)⟩
     obtain⟨x,hx,ap⟩:=be.o.get i u hu;obtain⟨bb,oo,bp,S,aS⟩:=a7.o i x hx;subst bp;have aI:bb∉sv.ownBlock.toList:=fun E=>(H.o.own bb (by simpa using E)).1 S
     have bE:wr.cell? ⟨bb,oo+i,none⟩=some x:=(M.o.cell (H.o.ltF bb S) aI).trans aS;have bf:=hZ (Af.kept (M.o.keepsF H.o.ltF (fun b E hF=>(H.o.own b (by simpa using E)).1 hF)) (fun _ h=>h) _ _ ap);obtain⟨ti,xx,rfl⟩:=ap.iface;have bx:=CO hu
     have bw:(Bk ((Ab a).take i)).nodes+(Ag u).nodes<=(Ag a).nodes:=by
      have W:=M4 (Ab a) (i+1);rw[BM hu]at W;have h2:=La a;simp only[Sz.add]at W;omega
     have HU:=hZ hu;have bc:=hZ (IH.o u F G5 _ _ _ _ ar _ (by omega) (by omega) bf.o I.o);clear hu hx ap aS bx bw aI;go_wp2_with fail
     refine bc.o.mono ?_;rintro e w6 hP;obtain⟨v1,rfl,aN⟩:=Do.next H.o ai.o au.o M.o aj.o HU.o hP;have bh:=hZ aN;clear hP aN;go_wp2_with fail
     go_roundw
     case rel=>exact⟨i+1,_,by omega,by go_num,rfl,bh.o⟩
     case measure=>simp[intOf];omega
    .obtain rfl:i=P.length:=by omega
     have a5:(Ab a).take P.length=Ab a:=Qn (by rw[aB.o];exact Q8 _);rw[a5]at I;have aX:=La a;have aQ:X∉sv.ownBlock.toList:=fun E=>by have:=A.o.lst.lt (by simpa using E);omega
     have aC:=hZ (bl.o.kept M.o aQ);obtain⟨xl,xf,x0,x1,x2,x3,x4,x5⟩:=aC.o.cells6;obtain⟨L,an⟩:∃L,L=Aa a:=⟨_,rfl⟩
     rw[<-an]at aC aA x0 x1 x2 x3 x4;have ba:=hZ an;have bj:=hZ aX;have aw:Hid ((n+(Bk (Ab a)).nodes+1)*72<=140737488355328/\n+(Bk (Ab a)).nodes<=140737488355328):=hZ ⟨by omega,by omega⟩;clear an a5 aX aQ aW bq bt xf xl
     go_wp2_with(first
      |(at_builtin;go_loud(refine Bg rfl _ _ _ rfl 72 Iq 6 72 (by decide) underlying22 DM rfl ah (n+(Bk (Ab a)).nodes) ar (by rfl) (by exact I.o.lst.kept (bs:=[]) (by exact cg cR) (by simp)) wr.heap.size (Ci L (.slice d c m)) (by rfl) rfl (by intro j v hv;exact((Ac.new wr (Ci L (.slice d c m)) 72).cell j).trans hv) (IF _ _ d c m rfl) aw.o.1 aw.o.2 ?_);intro g bC w7 aO aH aP;have bi:=hZ aO;have ak:=hZ aH;have ay:=hZ aP;clear aO aH aP))
     go_ret
     have bn:Chg w4 (wr.alloc (.cells (Ci L (.slice d c m)).toArray 72)) sv.ownBlock.toList:=M.o.alloc _
     have bo:Chg w4 w7 sv.ownBlock.toList:=bn.step ak.o (fun j hj hl=>by
      rcases aj.o j (by simpa using hj)with h|h
      .simpa using h
      .omega)
     have bH:=av.o.size;have bI:=M.o.size;have bz:=ak.o.size;simp only[World.size_alloc]at bz
     have aL:BZ G5 wr w7:=by
      have W:Chg wr w7 _:=((Chg.refl wr []).alloc (.cells (Ci L (.slice d c m)).toArray 72)).none _|>.trans ak.o;exact W.keepsF I.o.ltG (fun b E Y=>(I.o.own b (by simpa using E)).2 Y)
     refine⟨_,G5,ar++Ci L (.slice d c m),rfl, ?_, ?_,av.o.none _|>.trans bo, ?_,fun b J=>ai.o b (a8.o b J),fun b J hl=>a9.o b (au.o b J (by omega)) hl,fun b J=>by have:=I.o.ltG b J;omega, ?_⟩
     .have e:n+(Ag a).nodes=n+(Bk (Ab a)).nodes+1:=by rw[bj.o];omega
      rw[e];exact bi.o
     .rw[Ea,<-List.append_assoc]
      refine(AR.kept aL (fun _ h=>h) _ _ I.o.at_).append ?_;rw[<-ba.o];refine AR.one L _ ?_;have bu:=aA.o.kept (w':=wr) (G:=G5) (M.o.keepsF H.o.ltG (fun b E Y=>(H.o.own b (by simpa using E)).2 Y)) ai.o;exact bu.kept aL (fun _ h=>h)
     .intro g' aa
      simp[Vl.ownBlock]at aa;subst aa
      rcases ay.o with h|h
      .rcases aj.o _ h with h|h
       .exact .inl h
       .exact .inr (by omega)
      .simp at h;exact .inr (by omega)
     .intro g' aa
      simp[Vl.ownBlock]at aa;subst aa
      rcases ay.o with h|h
      .exact(I.o.own _ h).2
      .intro Y;have:=I.o.ltG _ Y;simp at h;omega
def IV(t:Tr)(w:Wl)(e:Ending)(w':Wl):Prop:=
 ∃g a G c,e= .returned (.slice (some ⟨g,0,none⟩) (Ag t).nodes a)/\Ba w' (.slice (some ⟨g,0,none⟩) (Ag t).nodes a) 72 6 (Ag t).nodes c/\AR w' G (Ai t) c/\Chg w w' []/\w.heap.size<=g/\(∀b,G b->b<w'.heap.size)
theorem Vs(F:Nat->Prop)(t:Tr)(v:Vl)(w:Wl)(j:Af w F t v)(f:∀k,F k->k<w.heap.size)(I:(Ag t).nodes<=4294967296):
  Cl prog 74 #[.agg #[v]] w (IV t w):=by
 obtain⟨l,x,rfl⟩:=j.iface;have c:Chg w (w.alloc (.cells #[.iface l x] 64)) []:=(Chg.refl w []).alloc _
 have y:=hZ (Tj (Ag t).nodes t F (fun _=>False) (.iface l x) (.slice none 0 0) 0 [] [] (w.alloc (.cells #[.iface l x] 64)) (Q8 _) (by omega) (Af.kept (c.keepsF f) (fun _ h=>h) _ _ j)
  ⟨fun b i=>Q6 (f b i) c.size,Ba.nil _ _ _,rfl,fun g H=>(by cases H),fun b i=>i.elim⟩)
 have m:=hZ c;have o:=Cv t;have u:=hZ o;clear j f c o I;go_enter func74,ntmps74
 go_wp2_with fail
 refine y.o.mono ?_;rintro e M ⟨sv,G,xs,rfl,d,p,q,r,J,K,s,L⟩;rw[Nat.zero_add]at d;obtain⟨a,E,rfl,n⟩:=d.form;obtain⟨g,rfl⟩:=n u.o;have z:=hZ d;have A:=hZ p;have B:=hZ q;have C:=hZ r;have D:=hZ s;clear d p q r J K s L n;go_wp2_with fail
 go_ret
 refine⟨g,E,G,xs,rfl,z.o,A.o,m.o.fresh B.o (by simp[Vl.ownBlock]), ?_,D.o⟩
 rcases C.o g rfl with h|h
 .simp[Vl.ownBlock]at h
 .have:=m.o.size;omega
theorem TY(F:Nat->Prop)(c:Nat)(t:Tr)(w:Wl)(B:CG w F c t)(i:∀k,F k->k<w.heap.size)(D:(Ag t).nodes<=4294967296):
  Cl prog 38 #[.pointer (some ⟨c,0,none⟩)] w (IV t w):=by
 obtain⟨v,l,b,j⟩:=B;have r:=hZ (IG F c v w l b.iface j);have q:=hZ b;have d:=hZ i;clear l b j i;go_enter func38,ntmps38
 go_wp2_with fail
 refine r.o.mono ?_;rintro e H ⟨rfl,a⟩;have f:=hZ a;have s:=hZ (Vs F t v H (Af.kept (a.keepsF d.o) (fun _ h=>h) _ _ q.o) (fun k C=>Q6 (d.o k C) a.size) D);clear a;go_wp2_with fail
 refine s.o.mono ?_;rintro e w2 ⟨g,A,G,xs,rfl,m,n,o,E,p⟩;have u:=hZ m;have x:=hZ n;have y:=hZ o;have z:=hZ p;clear m n o p;go_wp2_with fail
 go_ret
 exact⟨g,A,G,xs,rfl,u.o,x.o,f.o.trans y.o,Q7 f.o.size E,z.o⟩
end
end Go.Proofs.YtkfnkppdhcaeoaaGreatDoor

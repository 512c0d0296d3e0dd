/- Part 4 of the proof of patchFresh_card. -/
import Derived.BigQuiet
import Derived.Deep.AppendLies
import Derived.Deep.LoopGhost
import Derived.Deep.QuietTactic
import Derived.Deep.RegionHeld3
import Derived.Deep.RegionLaw
import Derived.Defers
import Derived.LaidEql
import Derived.Outline
import Derived.Recover
import Derived.StillTailTactics
import Derived.Test.YtamgbmcchhmojaaGreatDoorM03
set_option maxRecDepth 100000
set_option maxHeartbeats 32000000
set_option linter.all false
namespace Go.Proofs.YtamgbmcchhmojaaGreatDoor
open Go renaming Calls->Cl,TypeId->Ti,Value->Vl,World->Wl
open Go.Value renaming agg->nA,iface->nF,int->nI,pointer->nP,slice->nS,string->nG,tuple->nT
open Go.IntKind renaming i64->nX
open Go.Ending renaming returned->nR
open Go.Obj renaming cells->nC
open Option renaming none->nN,some->nM
section
open _root_.Go.Proofs.Tryz
open Go Go.RowKit
theorem Th(n:Nat)(w:Wl):Cl prog 67 #[.float .f64 n] w fun e w'=>e= nR (.bool (Ieee.double.order n n !=nM .eq))/\w=w':=by
 go_enter func67,ntmps67;go_wp2;go_ret;exact⟨rfl,rfl⟩
theorem GW(n:Int)(w:Wl):(callFunc 66 #[nI .u64 n]).run prog w= .ok (.value (.float .f64 n.toNat)) w:=Yb
theorem GX(n:Nat)(w:Wl):(callFunc 39 #[.float .f64 n]).run prog w= .ok (.value (nI .u64 n)) w:=Yb
theorem Wh(n:Nat)(a:n<18446744073709551616):(bits BinOp.andNot IntKind.u64 (n:Int) 9223372036854775808).toNat=n % 9223372036854775808:=by
 have:=u64_andNot_nat n 9223372036854775808 a ZM;rw[show((9223372036854775808:Nat):Int)=9223372036854775808 from rfl]at this;rw[this,Int.toNat_natCast,show 18446744073709551615-9223372036854775808=2^63-1 from by decide,Nat.and_two_pow_sub_one_eq_mod]
theorem WT(n:Nat)(a:n<18446744073709551616)(w:Wl):Cl prog 97 #[.float .f64 n] w fun e w'=>e= nR (.float .f64 (n % 9223372036854775808))/\w=w':=by
 have b:=hZ (Wh n a);have c:=GX;have d:=GW;clear a;go_enter func97,ntmps97;go_wp2;go_ret;exact⟨congrArg (fun k=>Ending.returned (.float .f64 k)) b.o,rfl⟩
theorem Tg(n:Nat)(a:n<18446744073709551616)(w:Wl):Cl prog 68 #[.float .f64 n,nI nX 0] w fun e w'=>e= nR (.bool (Ieee.double.order (n % 9223372036854775808) 9218868437227405311==nM .gt))/\w=w':=by
 have b:=hZ a;clear a;go_enter func68,ntmps68;go_wp2_with(first|(go_at_call 97;refine(WT _ b.o _).mono ?_;rintro e w' ⟨rfl,rfl⟩));go_ret;exact⟨rfl,rfl⟩
theorem FO(n:Nat)(w:Wl):Cl prog 67 #[.float .f64 n] w fun e w'=>e= nR (.bool (decide (9218868437227405312<Fl.A7 n)))/\w=w':=by
 rw[<-Fl.N9];exact Th n w
theorem bJ(n:Nat)(a:n<18446744073709551616)(w:Wl):Cl prog 68 #[.float .f64 n,nI nX 0] w fun e w'=>e= nR (.bool (decide (Fl.A7 n=9218868437227405312)))/\w=w':=by
 rw[<-Fl.N8];exact Tg n a w
def KN(n:Int):Vl:= nF 122 (nA #[nI nX n])
def By(n:Int):Ending:= .panicked [{v:=KN n,recovered:=false}]
theorem Bv(n:Int)(w:Wl):Cl prog 30 #[.bool true,nI nX n] w fun e w'=>e= nR (nT #[])/\w=w':=by
 go_enter func30,ntmps30;go_wp2;go_end0
 exact⟨rfl,rfl⟩
theorem Bu(n:Int)(w:Wl):Cl prog 30 #[.bool false,nI nX n] w fun e w'=>e=By n/\Chg w w' []:=by
 go_enter func30,ntmps30;go_wp2;exact⟨rfl,rfl,Chg.refl _ _⟩
theorem Pj(n:Nat)(w:Wl):Cl prog 268 #[.float .f64 n] w fun e w'=>e= nR (nI .u64 n)/\w=w':=by
 have a:=GX;go_enter func268,ntmps268;go_wp2;go_ret;exact⟨rfl,rfl⟩
end
section
open Go Go.RowKit
variable{a:Act}{l:Array Oper}{Q:Exit->Act->Wl->Prop}{rest:List Oper}{vs xs:List Vl}{cap g:Nat}{o:Oper}{P:Program}{p:Prop}{e:Ti}{sv:Vl}{w:Wl}
def AK(w:Wl)(sv:Vl)(e:Ti)(xs:List Vl):Prop:=w.ownsRow 0 e 1 sv xs.length xs
theorem AK.nil(w:Wl)(e:Ti):AK w (nS nN 0 0) e []:=World.ownsRow_nil w 0 e 1
theorem AK.kept{w':Wl}{bs:List Nat}(h:AK w sv e xs)(j:Chg w w' bs)(k:∀g,sv.ownBlock=nM g->g∉bs:=by simp):AK w' sv e xs:=by
 obtain⟨f,a⟩:=h;refine⟨f, ?_⟩;rcases a with a|⟨g,cap,d,c,i,b,r⟩
 .exact .inl a
 .refine .inr ⟨g,cap,d,c,i, ?_,r⟩;rw[j.block g (Array.getElem?_eq_some_iff.1 b).1 (k g (by subst c;rfl))];exact b
theorem AK.form(h:AK w sv e xs):∃a cap,sv= nS a xs.length cap/\(xs≠[]->∃g,a=nM ⟨g,0,nN⟩):=by
 rcases h.2 with⟨c,b⟩|⟨g,cap,i,d,_⟩
 .exact⟨nN,0,by rw[c,b],fun f=>absurd (List.eq_nil_of_length_eq_zero b) f⟩
 .exact⟨_,cap,d,fun _=>⟨g,rfl⟩⟩
theorem AK.cell(h:AK w sv e xs)(a:sv.ownBlock=nM g)(i:Nat)(v:Vl)(b:xs[i]? =nM v):w.cell? ⟨g,i,nN⟩=nM v:=by
 have:=World.ownsRow.cells h a i v b;rwa[show(⟨g,0,nN⟩:Addr).add i=⟨g,i,nN⟩from by unfold Addr.add;split<;>simp_all]at this
theorem AK.lt(h:AK w sv e xs)(a:sv.ownBlock=nM g):g<w.heap.size:=(World.ownsRow.lt h g a).2
theorem zu(h:p:=by
 intro j v b;match j,b with
 |0,b=>simp at b;subst b;exact L
 |j+1,b=>simp at b):p:=h
theorem zx(h:p:=by unfold maxLen;omega):p:=h
theorem AM(y:o.guard=nN)(s x:Operand)(t:Ti)(E:o.op= .call {callee:= .builtin .append,args:=#[s,x],argTypes:=#[t,t]})(e:Ti)(z:Vl)(d:Nat)(J:P.underlying t=nM (.slice e))(A:(P.info? e).map (fun i=>(i.zero,i.size,i.bytes))=nM (nM z,1,d))(R:z.cells.size=1)(sv:Vl)(xs:List Vl)(H:a.eval s=sv)(F:AK w sv e xs)(B:Nat)(u:Vl)(N:a.eval x= nS (nM ⟨B,0,nN⟩) 1 1)(L:w.cell? ⟨B,0,nN⟩=nM u)(M:u.oneCell'=true)(f:(xs.length+1)*d<=140737488355328)(T:xs.length<=140737488355328)(h:∀g cap w',AK w' (nS (nM ⟨g,0,nN⟩) (xs.length+1) cap) e (xs++[u])->Chg w w' sv.ownBlock.toList->(sv.ownBlock=nM g\/g=w.heap.size)->
   wpList P l Q rest (a.put o.dst (nS (nM ⟨g,0,nN⟩) (xs.length+1) cap)) w'):wpList P l Q (o::rest) a w:=by
 obtain⟨i,hi,O,I,q⟩:=info_parts A
 have D:∀j v,[u][j]? =nM v->w.cell? ((⟨B,0,nN⟩:Addr).add j)=nM v:=by
  exact zu
 obtain⟨g,cap,w',G,m,c,n,S⟩:=run_append_lies (P:=P) w t o.type 0 e i z 1 d J hi O I q R ZM sv xs.length xs F ⟨B,0,nN⟩ 1 1 [u] rfl D (by simpa using M) ZM zx f (Nat.zero_le _) _ rfl;refine wpList_plain y fun K p=> ?_;unfold Oper.wp execOp;simp only[E,resolve,invoke,builtin,Sem.run_bind,Sem.run_pure,Result.andThen_ok,List.map_toArray,List.map_cons,List.map_nil,H,N,G];exact p _ _ (h g cap w' (by unfold AK;rw[Qk];exact m) ⟨c.os,c.tape,c.output,c.size,fun k C f=>c.block k C fun r=>f (by rw[<-r];simp)⟩ n)
theorem Df{K:Act->Wl->Prop}{E:Prop}(r:o.guard=nN)(s x:Operand)(t:Ti)(D:o.op= .call {callee:= .builtin .append,args:=#[s,x],argTypes:=#[t,t]})(e:Ti)(z:Vl)(d:Nat)(J:P.underlying t=nM (.slice e))(y:(P.info? e).map (fun i=>(i.zero,i.size,i.bytes))=nM (nM z,1,d))(S:z.cells.size=1)(sv:Vl)(xs:List Vl)(H:a.eval s=sv)(F:AK w sv e xs)(B:Nat)(u:Vl)(O:a.eval x= nS (nM ⟨B,0,nN⟩) 1 1)(L:w.cell? ⟨B,0,nN⟩=nM u)(M:u.oneCell'=true)(f:(xs.length+1)*d<=140737488355328)(U:xs.length<=140737488355328)(h:∀g cap w',AK w' (nS (nM ⟨g,0,nN⟩) (xs.length+1) cap) e (xs++[u])->Chg w w' sv.ownBlock.toList->(sv.ownBlock=nM g\/g=w.heap.size)->
   K (a.put o.dst (nS (nM ⟨g,0,nN⟩) (xs.length+1) cap)) w'):
  if Region.wanted o (yielded l a.tmps)=true then Oper.wp P o a w K Q else E:=by
 obtain⟨i,hi,R,I,p⟩:=info_parts y
 have C:∀j v,[u][j]? =nM v->w.cell? ((⟨B,0,nN⟩:Addr).add j)=nM v:=by
  exact zu
 obtain⟨g,cap,w',G,m,c,n,T⟩:=run_append_lies (P:=P) w t o.type 0 e i z 1 d J hi R I p S ZM sv xs.length xs F ⟨B,0,nN⟩ 1 1 [u] rfl C (by simpa using M) ZM zx f (Nat.zero_le _) _ rfl;have N:Region.wanted o (yielded l a.tmps)=true:=by simp[Region.wanted,r]
 rw[Qr N];unfold Oper.wp execOp;simp only[D,resolve,invoke,builtin,Sem.run_bind,Sem.run_pure,Result.andThen_ok,List.map_toArray,List.map_cons,List.map_nil,H,O,G];exact(h g cap w' (by unfold AK;rw[Qk];exact m) ⟨c.os,c.tape,c.output,c.size,fun k A f=>c.block k A fun q=>f (by rw[<-q];simp)⟩ n)
theorem AK.capLe{a:Option Addr}{n:Nat}(h:AK w (nS a n cap) e vs):n=vs.length/\vs.length<=cap:=by
 rcases h.2 with⟨b,i⟩|⟨g,d,f,c,_,_,j,_⟩
 .injection b;omega
 .injection c;omega
theorem AK.pop{a:Option Addr}(h:AK w (nS a vs.length cap) e vs)(k:Nat)(u:k<=vs.length):AK w (nS a k cap) e (vs.take k):=by
 have d:(vs.take k).length=k:=by rw[Ql];omega
 refine⟨Zh, ?_⟩;rcases h.2 with⟨b,r⟩|⟨g,q,f,c,n,o,t,j,l,m⟩
 .injection b with b s i
  subst b;subst i;have:k=0:=Zj;subst this;exact .inl ⟨rfl,Zh⟩
 .injection c with c v p
  subst c;subst p;refine .inr ⟨g,cap,f,by rw[d],n,o,Zj,j,l, ?_⟩;rw[d,Nat.mul_one,<-m,List.take_take]
  congr 1
  omega
theorem AK.lit(w:Wl)(cs:List Vl)(e:Ti)(n:Nat)(b:cs.length=n)(a:n<=maxLen):AK (w.alloc (nC cs.toArray e)) (nS (nM ⟨w.heap.size,0,nN⟩) n n) e cs:=by
 subst b;exact World.ownsRow_lit w cs.toArray cs.length (Nat.zero_le _) a Zh
theorem LC(w:Wl)(t f e:Ti)(i:TypeInfo)(d:P.underlying t=nM (.slice e))(hi:P.info? e=nM i)(a:Option Addr)(n cap:Nat)(b:n<=cap)(x:Option Addr)(c:Nat):
  (Builtin.append_ #[t,t] f #[nS a n cap,nS x 0 c]).run P w= .ok (nS a n cap) w:=by
 cases a with
 |none=>cases x<;>simp[Builtin.append_,run_underlying d,sizeOf,typeInfo,hi,Builtin.lenOf,Builtin.firstCells,b]<;>rfl
 |some a=>
  cases x<;>simp[Builtin.append_,run_underlying d,sizeOf,typeInfo,hi,Builtin.lenOf,Builtin.firstCells,b]<;>rfl
theorem A1{d:Array Oper}(j:o.guard=nN)(s x:Operand)(t:Ti)(k:o.op= .call {callee:= .builtin .append,args:=#[s,x],argTypes:=#[t,t]})(e:Ti)(i:TypeInfo)(p:P.underlying t=nM (.slice e))(hi:P.info? e=nM i)(b:Option Addr)(n cap:Nat)(g:n<=cap)(m:a.eval s= nS b n cap)(y:Option Addr)(c:Nat)(q:a.eval x= nS y 0 c)(h:wpList P d Q rest (a.put o.dst (nS b n cap)) w):wpList P d Q (o::rest) a w:=by
 have l:=LC (P:=P) w t o.type e i p hi b n cap g y c;refine wpList_plain j fun K f=> ?_;unfold Oper.wp execOp;simp only[k,resolve,invoke,builtin,Sem.run_bind,Sem.run_pure,Result.andThen_ok,List.map_toArray,List.map_cons,List.map_nil,m,q,l];exact f _ _ h
end
section
open _root_.Go.Proofs.Tryz
open Go Go.RowKit
variable{p:Prop}{w:Wl}
def Ho:Vl:= nG ⟨#[]⟩
theorem Ge:(prog.info? 86).map (fun i=>(i.zero,i.size,i.bytes))=nM (nM .nilIface,1,16):=Yb
theorem Cf:(prog.info? 9).map (fun i=>(i.zero,i.size,i.bytes))=nM (nM Ho,1,16):=Yb
theorem FB(b o j:Nat):(⟨b,o,nN⟩:Addr).add j=⟨b,o+j,nN⟩:=by
 unfold Addr.add;split
 .simp_all
 .rfl
def Dm(w:Wl)(e:Ti)(vs:List Vl)(r:Ending)(w':Wl):Prop:=
 ∃v,r= nR v/\AK w' v e vs/\(∀g,v.ownBlock=nM g->w.heap.size<=g)/\Chg w w' []
theorem Dm.own{d w2:Wl}{e:Ti}{vs:List Vl}{v:Vl}(h:w2.ownsRow w.heap.size e 1 v vs.length vs)(l:Chg w d [])(n:d.grownBy w2 (nM w.heap.size))(m:d.drawn<=w2.drawn):Dm w e vs (nR v) w2:=by
 refine⟨v,rfl, ?_,fun g o=>(World.ownsRow.lt h g o).1,l.grown n m fun k c p=> ?_⟩
 .obtain⟨a,b⟩:=h;refine⟨a, ?_⟩;rcases b with b|⟨g,cap,j,f,_,i⟩
  .exact .inl b
  .exact .inr ⟨g,cap,j,f,Nat.zero_le _,i⟩
 .injection c with c;subst c;exact absurd p (Nat.lt_irrefl _)
theorem FY{P:Program}{l:Array Oper}{rest:List Oper}{o:Oper}{a:Act}{Q:Exit->Act->Wl->Prop}(A:o.guard=nN)(s x:Operand)(t:Ti)(D:o.op= .call {callee:= .builtin .append,args:=#[s,x],argTypes:=#[t,t]})(base:Nat)(e:Ti)(z:Vl)(f:Nat)(H:P.underlying t=nM (.slice e))(B:(P.info? e).map (fun i=>(i.zero,i.size,i.bytes))=nM (nM z,1,f))(L:z.cells.size=1)(v:Vl)(F:a.eval s=v)(E:w.ownsRow base e 1 v 0 [])(d:Addr)(c:Nat)(b:List Vl)(I:a.eval x= nS (nM d) b.length c)(C:∀j u,b[j]? =nM u->w.cell? (d.add j)=nM u)(m:∀u∈b,u.oneCell'=true)(M:b.length<=140737488355328)(y:b.length*f<=140737488355328)(q:base<=w.heap.size)(h:∀v' w',w'.ownsRow base e 1 v' b.length b->w.grownBy w' v.ownBlock->w.drawn<=w'.drawn->wpList P l Q rest (a.put o.dst v') w'):wpList P l Q (o::rest) a w:=by
 obtain⟨i,hi,J,G,r⟩:=info_parts B;obtain⟨v',w',k,g,n,_⟩:=run_append_own (P:=P) w base t o.type e i z 1 f H hi J G r L ZM v 0 [] E d b.length c b Zh C m zx (by rw[Nat.zero_add];exact y) q;rw[Nat.zero_add,List.nil_append]at g;refine wpList_plain A fun K p=> ?_;unfold Oper.wp execOp;simp only[D,resolve,invoke,builtin,Sem.run_bind,Sem.run_pure,Result.andThen_ok,List.map_toArray,List.map_cons,List.map_nil,F,I,k];exact p _ _ (h v' w' g n (Vw _ _ _ _ k))
theorem zt(h:p:=by intro v' t g o m;have l:=hZ g;clear g;go_wp2;go_ret;exact Dm.own l.o ((Chg.refl w []).alloc _) o m):p:=h
theorem Hd(b:Addr)(c:Nat)(vs:List Vl)(w:Wl)(f:∀j u,vs[j]? =nM u->w.cell? (b.add j)=nM u)(d:∀u∈vs,u.oneCell'=true)(r:vs.length<=4294967296):
  Cl prog 98 #[nS (nM b) vs.length c] w (Dm w 86 vs):=by
 have s:=fun(q:Wl) (a:Option Addr) (n c:Nat)=>Lib.run_eql_slice_nil (P:=prog) q 109 86 a n c 0 0 underlying109;have i:=hZ d;have k:=hZ f;have h:=hZ (World.ownsRow_made w (e:=86) (size:=1) (base:=w.heap.size) #[] 0 (Q8 _) ZM Zh);clear d f;go_enter func98,ntmps98
 go_wp2_with(first
  |(at_builtin;refine FY rfl _ _ 109 rfl w.heap.size 86 .nilIface 16 underlying109 Ge rfl _ rfl h.o b c vs rfl ?c1 i.o ?c3 ?c4 ?c5 ?_))
 case c1=>intro j u p;exact((Chg.refl w []).alloc _).keeps (k.o j u p)
 case c3=>omega
 case c4=>omega
 case c5=>simp
 exact zt
theorem zv(h:p:=by go_wp2;go_ret;exact⟨_,rfl,AK.nil _ _,fun g i=>(by cases i),Chg.refl _ _⟩):p:=h
theorem LW(F:Nat->Prop)(s:Vl)(vs:List Vl)(w:Wl)(l:Ax w F s vs)(f:∀u∈vs,u.oneCell'=true)(k:vs.length<=4294967296):
  Cl prog 98 #[s] w (Dm w 86 vs):=by
 rcases l with⟨rfl,a,c,rfl⟩|⟨b,o,c,rfl,_,h⟩
 .cases a with
  |none=>
   have p:=fun(m:Wl) (a:Option Addr) (n c:Nat)=>Lib.run_eql_slice_nil (P:=prog) m 109 86 a n c 0 0 underlying109;go_enter func98,ntmps98;exact zv
  |some e=>exact Hd e c [] w (fun j u d=>by simp at d) (fun u d=>by simp at d) Zh
 .exact Hd ⟨b,o,nN⟩ c vs w (fun j u d=>by rw[FB];exact h j u d) f k
theorem FI(b:Addr)(c:Nat)(vs:List Vl)(w:Wl)(f:∀j u,vs[j]? =nM u->w.cell? (b.add j)=nM u)(d:∀u∈vs,u.oneCell'=true)(r:vs.length<=4294967296):
  Cl prog 22 #[nS (nM b) vs.length c] w (Dm w 9 vs):=by
 have s:=fun(q:Wl) (a:Option Addr) (n c:Nat)=>Lib.run_eql_slice_nil (P:=prog) q 27 9 a n c 0 0 underlying27;have i:=hZ d;have k:=hZ f;have h:=hZ (World.ownsRow_made w (e:=9) (size:=1) (base:=w.heap.size) #[] 0 (Q8 _) ZM Zh);clear d f;go_enter func22,ntmps22
 go_wp2_with(first
  |(at_builtin;refine FY rfl _ _ 27 rfl w.heap.size 9 Ho 16 underlying27 Cf rfl _ rfl h.o b c vs rfl ?c1 i.o ?c3 ?c4 ?c5 ?_))
 case c1=>intro j u p;exact((Chg.refl w []).alloc _).keeps (k.o j u p)
 case c3=>omega
 case c4=>omega
 case c5=>simp
 exact zt
theorem DL(F:Nat->Prop)(s:Vl)(vs:List Vl)(w:Wl)(l:Ax w F s vs)(f:∀u∈vs,u.oneCell'=true)(k:vs.length<=4294967296):
  Cl prog 22 #[s] w (Dm w 9 vs):=by
 rcases l with⟨rfl,a,c,rfl⟩|⟨b,o,c,rfl,_,h⟩
 .cases a with
  |none=>
   have p:=fun(m:Wl) (a:Option Addr) (n c:Nat)=>Lib.run_eql_slice_nil (P:=prog) m 27 9 a n c 0 0 underlying27;go_enter func22,ntmps22;exact zv
  |some e=>exact FI e c [] w (fun j u d=>by simp at d) (fun u d=>by simp at d) Zh
 .exact FI ⟨b,o,nN⟩ c vs w (fun j u d=>by rw[FB];exact h j u d) f k
end
section
open _root_.Go.Proofs.Tryz
open Go Go.RowKit Tree
variable{l:List Tr}{vs:List Vl}{b cap:Nat}{F:Nat->Prop}{a:Option Addr}{T e:Ti}{t:Tr}{sv v:Vl}{w:Wl}
structure C3(w:Wl)(F:Nat->Prop)(T:Ti)(b:Nat)(sv:Vl)(l:List Tr)(vs:List Vl):Prop where
 blk:Ac w b [sv] T
 lst:AK w sv 86 vs
 items:Ak w F l vs
 apart:¬F b
 apart':∀g,sv.ownBlock=nM g->¬F g/\g≠b
 lt:∀k,F k->k<w.heap.size
theorem C3.notOwn(h:C3 w F T b sv l vs):b∉sv.ownBlock.toList:=
 fun a=>(h.apart' b (by simpa using a)).2 rfl
theorem Af.oneCell(h:Af w F t v):v.oneCell'=true:=by
 cases t with
 |null=>simp only[Af]at h;subst h;rfl
 |flag b=>simp only[Af]at h;subst h;rfl
 |num b=>simp only[Af]at h;subst h;rfl
 |text s=>simp only[Af]at h;subst h;rfl
 |list l=>
  simp only[Af]at h;obtain⟨b,a,vs,rfl,_⟩:=h;rfl
 |obj ks l=>
  simp only[Af]at h;obtain⟨b,sk,a,vs,rfl,_⟩:=h;rfl
theorem Ak.oneCells:∀{l:List Tr} {vs:List Vl},Ak w F l vs->∀u∈vs,u.oneCell'=true
 |[],_,h=>by simp only[Ak]at h;subst h;intro u a;simp at a
 |t::l,vs,h=>by
  simp only[Ak]at h;obtain⟨v,r,rfl,b,c⟩:=h;intro u a;rcases Qh.1 a with rfl|a
  .exact b.oneCell
  .exact c.oneCells u a
theorem Af.iface(h:Af w F t v):∃c x,v= nF c x:=by
 cases t with
 |null=>simp only[Af]at h;exact⟨_,_,h⟩
 |flag b=>simp only[Af]at h;exact⟨_,_,h⟩
 |num b=>simp only[Af]at h;exact⟨_,_,h⟩
 |text s=>simp only[Af]at h;exact⟨_,_,h⟩
 |list l=>
  simp only[Af]at h;obtain⟨b,a,vs,h,_⟩:=h;exact⟨_,_,h⟩
 |obj ks l=>
  simp only[Af]at h;obtain⟨b,sk,a,vs,h,_⟩:=h;exact⟨_,_,h⟩
theorem Ak.length:∀{l:List Tr} {vs:List Vl},Ak w F l vs->vs.length=l.length
 |[],_,h=>by simp only[Ak]at h;subst h;rfl
 |t::l,vs,h=>by
  simp only[Ak]at h;obtain⟨v,r,rfl,_,a⟩:=h;simp[a.length]
theorem Ak.snoc(a:Af w F t v):∀{l:List Tr} {vs:List Vl},Ak w F l vs->Ak w F (l++[t]) (vs++[v])
 |[],_,h=>by
  simp only[Ak]at h;subst h;simp only[List.nil_append,Ak];exact⟨v,[],rfl,a,rfl⟩
 |d::l,vs,h=>by
  simp only[Ak]at h;obtain⟨v',r,rfl,b,c⟩:=h;simp only[Qo,Ak];exact⟨v',r++[v],rfl,b,c.snoc a⟩
def FZ(F:Nat->Prop)(T:Ti)(b:Nat)(sv:Vl)(l:List Tr)(w w':Wl):Prop:=
 ∃a c,C3 w' F T b a l c/\Chg w w' (b::sv.ownBlock.toList)/\∀g,a.ownBlock=nM g->sv.ownBlock=nM g\/w.heap.size<=g
theorem Rm(F:Nat->Prop)(t:Tr)(v:Vl)(b:Nat)(w:Wl)(a:Af w F t v)(d:(Ag t).within=false):
  Cl prog 65 #[nP (nM ⟨b,0,nN⟩),v] w fun e w'=>e= .panicked [{v:= nF 70 (nI nX 3),recovered:=false}]/\Chg w w' []:=by
 obtain⟨f,args,c,i⟩:=Gr t v a;have g:=hZ c;have h:=hZ d;have l:=hZ a;clear c d a;go_enter func65,ntmps65
 go_wp2_with(first
  |(refine Am rfl _ _ _ rfl _ rfl f args g.o _ i ?_;rintro e m ⟨rfl,j⟩;refine⟨_,rfl, ?_⟩;unfold SC)
  |(go_at_call 96;refine(FS _ _ _ _).mono ?_;rintro e w2 ⟨rfl,k⟩;rw[show Sz.within ⟨(Ag t).nodes,(Ag t).bytes,(Ag t).depth⟩=false from h.o]))
 exact⟨rfl,rfl,j.trans k⟩
theorem C3.kept{w':Wl}(h:C3 w F T b sv l vs)(a:Chg w w' []):C3 w' F T b sv l vs:=
 ⟨h.blk.kept a,h.lst.kept a,Ak.kept (a.keepsF h.lt) (fun _ h=>h) l vs h.items,h.apart,h.apart',fun k c=>Q6 (h.lt k c) a.size⟩
theorem C3.newNotIn(h:C3 w F T b sv l vs)(k:Nat)(c:w.heap.size<=k):k∉b::sv.ownBlock.toList:=by
 intro a;rcases Qh.1 a with rfl|a
 .have:=h.blk.lt;omega
 .have:=h.lst.lt (g:=k) (by simpa using a);omega
theorem C3.push{r w2 f:Wl}{m:List Tr}{us:List Vl}{g n:Nat}(h:C3 w F T b sv l vs)(s:Ak w F m us)(C:Af w F t v)(u:Chg w r [])(x:AK w2 (nS (nM ⟨g,0,nN⟩) n cap) 86 (us++[v]))(y:Chg r w2 sv.ownBlock.toList)(a:sv.ownBlock=nM g\/w.heap.size<=g)(z:Ac f b [nS (nM ⟨g,0,nN⟩) n cap] T)(p:Chg w2 f [b]):FZ F T b sv (m++[t]) w f:=by
 have A:Chg w w2 sv.ownBlock.toList:=(u.none _).trans y
 have q:g≠b:=by
  rcases a with a|a
  .exact(h.apart' g a).2
  .have:=h.blk.lt;omega
 have B:¬F g:=by
  rcases a with a|a
  .exact(h.apart' g a).1
  .intro e;have:=h.lt g e;omega
 have j:Chg w f (b::sv.ownBlock.toList):=(A.mono fun k _ d=>Qg _ d).step p fun i hi _=>by simp at hi;subst hi;simp
 have d:BZ F w f:=j.keepsF h.lt fun k d e=>by
  rcases Qh.1 d with rfl|d
  .exact h.apart e
  .exact(h.apart' k (by simpa using d)).1 e
 refine⟨_,us++[v],⟨z,x.kept p fun o c=> ?_, ?_,h.apart,fun o c=> ?_,fun k e=>Q6 (h.lt k e) j.size⟩,j,fun o c=> ?_⟩
 .simp[Vl.ownBlock]at c;subst c;simpa using q
 .exact Ak.snoc (Af.kept d (fun _ h=>h) t v C) (Ak.kept d (fun _ h=>h) m us s)
 .simp[Vl.ownBlock]at c;subst c;exact⟨B,q⟩
 .simp[Vl.ownBlock]at c;subst c;exact a
theorem EO(F:Nat->Prop)(T:Ti)(t:Tr)(v:Vl)(b:Nat)(sv:Vl)(l:List Tr)(vs:List Vl)(w:Wl)(i:C3 w F T b sv l vs)(n:Af w F t v)(q:(Ag t).within=true)(C:l.length<=2147483648):
  Cl prog 65 #[nP (nM ⟨b,0,nN⟩),v] w fun e w'=>e= nR (nT #[])/\FZ F T b sv (l++[t]) w w':=by
 obtain⟨r,x,rfl⟩:=n.iface;obtain⟨f,args,p,B⟩:=Gr t _ n;have I:vs.length<=2147483648:=by rw[i.items.length];exact C
 have u:=hZ p;have z:=hZ q;have y:=hZ n;have a:=hZ i;have H:=i.blk.lt;clear p q n i;go_enter func65,ntmps65
 go_wp2_with(first
  |(refine Am rfl _ _ _ rfl _ rfl f args u.o _ B ?_;rintro e L ⟨rfl,k⟩;refine⟨_,rfl, ?_⟩;unfold SC)
  |(go_at_call 96;refine(FS _ _ _ _).mono ?_;rintro e w2 ⟨rfl,m⟩;rw[show Sz.within ⟨(Ag t).nodes,(Ag t).bytes,(Ag t).depth⟩=true from z.o];have d:=hZ (a.o.blk.kept (k.trans m));have D:w2.cell? ⟨b,0,nN⟩=nM sv:=d.o.cell 0;have E:∀j,w2.frozen? ⟨b,j,nN⟩=false:=fun j=>d.o.frozen j;have J:=d.o.lt)
  |(at_builtin;refine AM rfl _ _ _ rfl 86 .nilIface 16 underlying109 Ge rfl sv vs rfl (((a.o.lst.kept (k.trans m)).kept ((Chg.refl w2 []).alloc _))) w2.heap.size (nF r x) rfl Zh rfl Zj Zj ?_;intro g cap s A o c;have h:=hZ ((d.o.alloc (nC #[nF r x] 86)).kept o a.o.notOwn);have c3:s.cell? ⟨b,0,nN⟩=nM sv:=h.o.cell 0;have G:∀j,s.frozen? ⟨b,j,nN⟩=false:=fun j=>h.o.frozen j;have K:=h.o.lt))
 go_end0
 refine⟨rfl,a.o.push a.o.items y.o ((k.trans m).alloc _) A o ?_ (h.o.set 0 _) ((Chg.refl _ _).setCell _ _ Zh)⟩;rcases c with c|c
 .exact .inl c
 .have:=(k.trans m).size;simp at c;exact .inr Zj
theorem AK.tailAt(h:AK w (nS a vs.length cap) e vs)(k c:Nat)(f:k<=vs.length)(d:cap=k):Ax w (fun _=>True) (nS a (vs.length-k) c) (vs.drop k):=by
 have:=h.capLe;have b:vs.length-k=0:=Zj;exact .inl ⟨List.drop_of_length_le Zj,a,c,by rw[b]⟩
theorem AK.tail(h:AK w (nS a vs.length cap) e vs)(k c:Nat)(l:k<=vs.length):Ax w (fun _=>True) (nS (Option.map (fun x=>x.add k) a) (vs.length-k) c) (vs.drop k):=by
 by_cases d:k=vs.length
 .subst d;exact .inl ⟨Zh,Option.map (fun x=>x.add vs.length) a,c,Zh⟩
 .obtain⟨m,n,b,j⟩:=h.form;obtain⟨g,rfl⟩:=j (by rintro rfl;simp at l d;omega);injection b with b;subst b
  refine .inr ⟨g,k,c, ?_,trivial,fun i v f=> ?_⟩
  .simp[FB]
  .rw[List.getElem?_drop]at f;exact h.cell rfl _ v f
theorem JS(F:Nat->Prop)(T:Ti)(b:Nat)(sv:Vl)(l:List Tr)(vs:List Vl)(w:Wl)(c:C3 w F T b sv l vs)(n:Int)(f:(l.length:Int)<n):
  Cl prog 70 #[nP (nM ⟨b,0,nN⟩),nI nX n] w fun e w'=>e= .panicked [{v:= nF 70 (nI nX 102),recovered:=false}]/\Chg w w' []:=by
 obtain⟨a,cap,rfl,d⟩:=c.lst.form;rw[<-c.items.length]at f;have g:w.cell? ⟨b,0,nN⟩=nM (nS a vs.length cap):=c.blk.cell 0;clear c d;go_enter func70,ntmps70;go_wp2;exact⟨rfl,rfl,Chg.refl _ _⟩
theorem GS(F:Nat->Prop)(T:Ti)(b:Nat)(sv:Vl)(l:List Tr)(vs:List Vl)(w:Wl)(c:C3 w F T b sv l vs)(n:Nat)(k:n<=l.length)(j:l.length<=2147483648):
  Cl prog 70 #[nP (nM ⟨b,0,nN⟩),nI nX n] w (Dm w 86 (vs.drop (vs.length-n))):=by
 obtain⟨a,cap,rfl,r⟩:=c.lst.form;rw[<-c.items.length]at k j;have p:=hZ c;have q:w.cell? ⟨b,0,nN⟩=nM (nS a vs.length cap):=c.blk.cell 0;have s:=c.lst.capLe.2;have h:=hZ c.lst;have f:Hid (∀u∈vs.drop (vs.length-n),u.oneCell'=true):=fun u m=>(c.items.oneCells u (List.mem_of_mem_drop m));have g:Hid ((vs.drop (vs.length-n)).length<=4294967296):=by unfold Hid;rw[Qm];omega
 clear c;go_enter func70,ntmps70;by_cases i:cap=vs.length-n
 .go_wp2_with(first|(go_at_call 98;refine(LW (fun _=>True) _ _ _ (h.o.tailAt (vs.length-n) _ Zj i) f.o g.o).mono ?_;rintro e o ⟨v,rfl,d⟩));go_ret;exact⟨v,rfl,d⟩
 .go_wp2_with(first|(go_at_call 98;refine(LW (fun _=>True) _ _ _ (h.o.tail (vs.length-n) _ Zj) f.o g.o).mono ?_;rintro e o ⟨v,rfl,d⟩));go_ret;exact⟨v,rfl,d⟩
theorem Ie(F:Nat->Prop)(sl:Vl)(l:List Tr)(vs:List Vl)(p:Nat)(w:Wl)(hs:Ax w F sl vs)(hi:Ak w F l vs)(U:∀k,F k->k<w.heap.size)(Y:EJ l)(hl:l.length<=65536)(hk:p<=1099511627776):
  Cl prog 72 #[sl,nI nX p] w fun e w'=>e= nR (SC ((Bk l).over p))/\Chg w w' []:=by
 obtain⟨a,c,rfl,W⟩:=hs.cell;have ad:=hi.length;have HC:=hZ W;have HI:=hZ hi;have HF:=hZ U;have I:=hZ Y;have L:=hZ ad;have ao:vs.length<=65536:=Zj;clear W hi U Y hs ad;go_enter func72,ntmps72;go_wp2_with fail
 go_loopw [13] (fun i wr=>∃k:Nat,k<=vs.length/\i= nI nX k/\Chg w wr []/\Ac wr (w.heap.size+1) [nI nX (1+(Bk (l.take k)).nodes),nI nX (p+(Bk (l.take k)).bytes),nI nX ((Bk (l.take k)).depth)] 170/\
   Ac wr w.heap.size [nI nX 0,nI nX 0,nI nX 0] 170)
  (fun i _=>vs.length-(intOf i).toNat)
 case atStart=>
  refine⟨0,Zj,rfl,by exact ot, ?_, ?_⟩
  .have:=Ac.new (w.alloc (nC #[nI nX 0,nI nX 0,nI nX 0] 170)) [nI nX 1,nI nX p,nI nX 0] 170;simpa[Bk]using this
  .exact(Ac.new w [nI nX 0,nI nX 0,nI nX 0] 170).alloc _
 case round=>
  obtain⟨k,an,rfl,Z,g,T⟩:=hrel;have q:=(I.o.take k).sum;have b1:(l.take k).length<=65536:=by rw[Ql];omega
  obtain⟨N,B⟩:=Ue ((Bk (l.take k)).nodes);obtain⟨M,A⟩:=Ue ((Bk (l.take k)).bytes);obtain⟨D,z⟩:=Ue ((Bk (l.take k)).depth);rw[<-B,<-A,<-z]at g q;have K:=hZ B;have J:=hZ A;have H:=hZ z;clear B A z;have n1:N<=4294967296:=by have:=q.1;omega
  have n2:M<=137438953472:=by have:=q.2.1;omega
  have n3:D<=512:=q.2.2;clear q;have lb:=g.lt;have O:wr.cell? ⟨w.heap.size+1,0,nN⟩=_:=g.cell 0;have c1:wr.cell? ⟨w.heap.size+1,1,nN⟩=_:=g.cell 1;have P:wr.cell? ⟨w.heap.size+1,2,nN⟩=_:=g.cell 2;have cf:∀j,wr.frozen? ⟨w.heap.size+1,j,nN⟩=false:=fun j=>g.frozen j;simp only[Qa,Qb]at O c1 P;have u:=hZ Z;have HB:=hZ g;have m:=hZ T;clear Z g T;by_cases aj:k<vs.length
  .have t:k<l.length:=by rw[<-L.o];exact aj
   obtain⟨v,G,aa⟩:=HI.o.get k l[k] (Q9 t);obtain⟨b,o,ai,al,X⟩:=HC.o k v G;subst ai;have am:wr.cell? ⟨b,o+k,nN⟩=nM v:=u.o.keeps X;have E:Af wr F l[k] v:=Af.kept (u.o.keepsF HF.o) (fun _ h=>h) _ _ aa;obtain⟨ti,x,rfl⟩:=E.iface;obtain⟨f,args,hm,V⟩:=Gr _ _ E;have ag:=hZ hm;have HV:=hZ G;have d:=(Ar (I.o l[k] (List.getElem_mem t)));obtain⟨S,C⟩:=Ue (Ag l[k]);rw[<-C]at d V;obtain⟨s1,s2,s3⟩:=S;simp only at d;obtain⟨d,aq,w3⟩:=d
   have ab:Bk (l.take (k+1))=⟨N+s1,M+s2,max D s3⟩:=by
    rw[BM (Q9 t),<-C];unfold Sz.add;rw[<-K.o,<-J.o,<-H.o]
   have ah:=hZ ab;clear ab;clear hm G aa E C X
   go_wp2_with(first
    |(refine Am rfl _ _ _ rfl _ rfl f args ag.o _ V ?_;rintro e d ⟨rfl,y⟩;refine⟨_,rfl, ?_⟩;unfold SC;have af:=hZ y;have n:=hZ (HB.o.kept y);have ae:=hZ (m.o.kept y);have ap:=n.o.lt;have d0:d.cell? ⟨w.heap.size+1,0,nN⟩=_:=n.o.cell 0;have d1:d.cell? ⟨w.heap.size+1,1,nN⟩=_:=n.o.cell 1;have d2:d.cell? ⟨w.heap.size+1,2,nN⟩=_:=n.o.cell 2;have df:∀j,d.frozen? ⟨w.heap.size+1,j,nN⟩=false:=(fun j=>n.o.frozen j);simp only[Qa,Qb]at d0 d1 d2;clear y))
   go_roundw
   case rel=>
    have G2:=u.o.trans af.o;refine⟨k+1,Zj,by go_num,by(have:=G2;exact oq), ?_,by(have:=ae.o;exact rU)⟩;apply Ac.eq
    ·(repeat(first|exact n.o|with_reducible apply Ac.drewN|with_reducible apply Ac.drew|with_reducible apply Ac.alloc|with_reducible apply Ac.set|(with_reducible apply Ac.set_other;rotate_left;(.first|(simp;done)|(simp;omega)))))
    .go_light;rw[ah.o];simp;refine⟨Zj,Zj, ?_⟩;split<;>omega
   case measure=>simp[intOf];omega
  .have Q:wr.cell? ⟨w.heap.size,0,nN⟩=_:=m.o.cell 0;have r:wr.cell? ⟨w.heap.size,1,nN⟩=_:=m.o.cell 1;have s:wr.cell? ⟨w.heap.size,2,nN⟩=_:=m.o.cell 2;have ef:∀j,wr.frozen? ⟨w.heap.size,j,nN⟩=false:=fun j=>m.o.frozen j;have ak:=m.o.lt;simp only[Qa,Qb]at Q r s;go_wp2;refine bodyPost_ret (v:= nA #[nI nX (1+N),nI nX (p+M),nI nX (D+1)]) (by simp[results,results72,go_sem,ak,Q,r,s,O,c1,P]) rfl ⟨?_, ?_⟩
   .go_light;have t:l.take k=l:=Qn (by rw[<-L.o];omega);have r:=K.o;have s:=J.o;have R:=H.o;rw[t]at r s R;subst r;subst s;subst R;unfold SC Sz.over;simp
   ·(have:=u.o;exact oq)
theorem IZ(F:Nat->Prop)(t:Tr)(v:Vl)(b:Nat)(n:Int)(w:Wl)(a:Af w F t v)(d:(Ag t).within=false):
  Cl prog 71 #[nP (nM ⟨b,0,nN⟩),nI nX n,v] w fun e w'=>e= .panicked [{v:= nF 70 (nI nX 3),recovered:=false}]/\Chg w w' []:=by
 obtain⟨l,x,rfl⟩:=a.iface;obtain⟨f,args,c,i⟩:=Gr t _ a;have g:=hZ c;have h:=hZ d;clear c d a;go_enter func71,ntmps71
 go_wp2_with(first
  |(refine Am rfl _ _ _ rfl _ rfl f args g.o _ i ?_;rintro e m ⟨rfl,j⟩;refine⟨_,rfl, ?_⟩;unfold SC)
  |(go_at_call 96;refine(FS _ _ _ _).mono ?_;rintro e w2 ⟨rfl,k⟩;rw[show Sz.within ⟨(Ag t).nodes,(Ag t).bytes,(Ag t).depth⟩=false from h.o])
  |(go_at_call 63;refine(CD _ _).mono ?_;rintro e o ⟨rfl,rfl⟩))
 exact⟨rfl,rfl,j.trans k⟩
theorem I0(F:Nat->Prop)(T:Ti)(t:Tr)(v:Vl)(b:Nat)(sv:Vl)(l:List Tr)(vs:List Vl)(n:Nat)(w:Wl)(c:C3 w F T b sv l vs)(q:Af w F t v)(C:(Ag t).within=true)(O:n<=l.length)(N:l.length<=2147483648):
  Cl prog 71 #[nP (nM ⟨b,0,nN⟩),nI nX n,v] w fun e w'=>e= nR (nT #[])/\FZ F T b sv (l.take (l.length-n)++[t]) w w':=by
 obtain⟨r,x,rfl⟩:=q.iface;obtain⟨f,args,A,M⟩:=Gr t _ q;obtain⟨a,cap,rfl,L⟩:=c.lst.form;have u:=c.items.length;have Y:=c.lst.capLe.2;rw[<-u]at O N;have I:=hZ u;have G:=hZ (c.lst.pop (vs.length-n) Zj);have s:Hid ((vs.take (vs.length-n)).length=vs.length-n):=by unfold Hid;rw[Ql];omega
 have E:=hZ A;have J:=hZ C;have H:=hZ q;have k:=hZ c;have X:=c.blk.lt;clear A C q c u L;go_enter func71,ntmps71
 go_wp2_with(first
  |(refine Am rfl _ _ _ rfl _ rfl f args E.o _ M ?_;rintro e w1 ⟨rfl,o⟩;refine⟨_,rfl, ?_⟩;unfold SC)
  |(go_at_call 96;refine(FS _ _ _ _).mono ?_;rintro e w2 ⟨rfl,p⟩;rw[show Sz.within ⟨(Ag t).nodes,(Ag t).bytes,(Ag t).depth⟩=true from J.o])
  |(go_at_call 63;refine(Au _ _).mono ?_;rintro e y ⟨rfl,rfl⟩))
 have h:=hZ (k.o.blk.kept (o.trans p));have S:w2.cell? ⟨b,0,nN⟩=nM (nS a vs.length cap):=h.o.cell 0;have V:∀j,w2.frozen? ⟨b,j,nN⟩=false:=fun j=>h.o.frozen j;have Z:=h.o.lt;have D:=hZ (((G.o.kept (o.trans p)).kept ((Chg.refl w2 []).alloc (nC #[nF r x] 86))));have z1:IntKind.i64.wrap ((vs.length:Int)-n)=(vs.length:Int)-n:=IntWalk.i64_in _ Zj;have z2:(0:Int)<=(vs.length:Int)-n:=Zj;have z3:(vs.length:Int)-n<=(cap:Int):=Zj;have z4:((vs.length:Int)-n).toNat=vs.length-n:=Zj;have Q:(vs.length-n+1)*16<=140737488355328:=Zj;have R:vs.length-n<=140737488355328:=Zj;have P:b∉(Vl.slice a (vs.length-n) cap).ownBlock.toList:=by have:=k.o.notOwn;cases a<;>simpa[Vl.ownBlock]using this
 go_region_law(first|(refine Df rfl _ _ _ rfl 86 .nilIface 16 underlying109 Ge rfl (nS a (vs.length-n) cap) (vs.take (vs.length-n)) ZN (by exact D.o) w2.heap.size (nF r x) ZN Zh rfl (by rw[s.o];exact Q) (by rw[s.o];exact R) ?_;rw[s.o];intro g U y K z d;have i:=hZ ((h.o.alloc (nC #[nF r x] 86)).drew.kept z P);have c3:y.cell? ⟨b,0,nN⟩=nM (nS a vs.length cap):=i.o.cell 0;have W:∀j,y.frozen? ⟨b,j,nN⟩=false:=(fun j=>i.o.frozen j);have aa:=i.o.lt));all_goals go_end0
 all_goals
  have B:(Vl.slice a vs.length cap).ownBlock=(Vl.slice a (vs.length-n) cap).ownBlock:=by cases a<;>rfl
  refine⟨rfl,k.o.push (m:=l.take (l.length-n)) (us:=vs.take (vs.length-n)) ?_ H.o (((o.trans p).alloc (nC #[nF r x] 86)).drew) K (by rw[B];exact z) ?_ (i.o.set 0 _) ((Chg.refl _ _).setCell _ _ Zh)⟩
  .rw[<-I.o];exact k.o.items.take _
  .rw[B];rcases d with d|d
   .exact .inl d
   .have:=(o.trans p).size;simp at d;exact .inr Zj
end
section
open Go Go.RowKit
variable{xs:List Vl}{M b c m n o sz:Nat}{a:Option Addr}{e:Ti}{sv v x:Vl}{w:Wl}
theorem Bx{B:Nat}(a:w.heap.size=B)(v:Vl)(T:Ti):(w.alloc (nC #[v] T)).cell? ⟨B,0,nN⟩=nM v:=by
 subst a;rw[World.cell?_alloc_mark];rfl
theorem AK.norm{cap:Nat}{c:List Vl}(h:AK w (nS a n cap) e xs)(d:n=b)(f:xs=c):AK w (nS a b cap) e c:=by
 subst d;subst f;exact h
theorem Chg.own{W a:Wl}{bs:List Nat}(h:Chg w W bs)(k:Chg W a v.ownBlock.toList)(c:∀g,sv.ownBlock=nM g->g∈bs)(b:∀g,v.ownBlock=nM g->sv.ownBlock=nM g\/w.heap.size<=g):Chg w a bs:=
 h.step k fun i hi d=>by
  rcases b i (by simpa using hi)with h|h
  .exact c i h
  .omega
theorem LF{P:Program}{h:Array Oper}{rest:List Oper}{o:Oper}{a:Act}{Q:Exit->Act->Wl->Prop}(y:o.guard=nN)(l c:Operand)(t:Ti)(F:o.op=Op.makeSlice t l c)(e:Ti)(z:Vl)(d:Nat)(I:P.underlying t=nM (.slice e))(A:(P.info? e).map (fun i=>(i.zero,i.size,i.bytes))=nM (nM z,1,d))(g f:IntKind)(C:Int)(n:Nat)(E:a.eval l= nI g 0)(x:a.eval c= nI f C)(r:C=(n:Int))(j:d*n<=281474976710656)(m:n<=maxLen)(B:Nat)(q:w.heap.size=B)(s:∀w',AK w' (nS (nM ⟨B,0,nN⟩) 0 n) e []->Chg w w' []->wpList P h Q rest (a.put o.dst (nS (nM ⟨B,0,nN⟩) 0 n)) w'):
  wpList P h Q (o::rest) a w:=by
 obtain⟨i,hi,J,H,v⟩:=info_parts A;subst r;subst v;subst q;obtain⟨w',G,p,b⟩:=run_make_own (P:=P) w 0 t e i z 1 I hi J H g f n j m (Nat.zero_le _);refine wpList_plain y fun K u=> ?_;unfold Oper.wp;simp only[execOp,F,E,x,G,Sem.run_bind,Result.andThen_ok,Sem.run_pure];exact u _ _ (s w' p ⟨b.os,b.tape,b.output,b.size,fun k D _=>b.block k D Zh⟩)
def As(w:Wl)(d:Vl)(sz n:Nat)(xs:List Vl):Prop:=
 ∃a c,d= nS a n c/\n<=c/\xs.length=n*sz/\∀i v,xs[i]? =nM v->∃b o,a=nM ⟨b,o,nN⟩/\w.cell? ⟨b,o+i,nN⟩=nM v
theorem As.kept{w':Wl}{d:Vl}(h:As w d sz n xs)(m:Chg w w' []):As w' d sz n xs:=by
 obtain⟨a,c,g,j,k,l⟩:=h;exact⟨a,c,g,j,k,fun i v p=>by obtain⟨b,o,e,f⟩:=l i v p;exact⟨b,o,e,m.keeps f⟩⟩
theorem As.form{b:Vl}(h:As w b sz n xs):∃a c,b= nS a n c/\n<=c/\xs.length=n*sz:=by
 obtain⟨a,c,d,e,f,_⟩:=h;exact⟨a,c,d,e,f⟩
theorem As.get(h:As w (nS a m c) sz n xs){i:Nat}(g:xs[i]? =nM v):∃b o,a=nM ⟨b,o,nN⟩/\w.cell? ⟨b,o+i,nN⟩=nM v:=by
 obtain⟨j,k,e,_,_,f⟩:=h;injection e with d _ _
 subst d;exact f i v g
theorem As.base(h:As w (nS a m c) sz n xs)(q:0<n)(r:0<sz):∃b o,a=nM ⟨b,o,nN⟩/\∀i v,xs[i]? =nM v->w.cell? ⟨b,o+i,nN⟩=nM v:=by
 obtain⟨t,x,k,_,l,g⟩:=h;injection k with f _ _
 subst f;have:0<xs.length:=by rw[l];exact Nat.mul_pos q r
 obtain⟨b,o,e,_⟩:=g 0 xs[0] (Q9 this);refine⟨b,o,e,fun i v s=> ?_⟩;obtain⟨u,y,d,p⟩:=g i v s;rw[e]at d;injection d with d
 injection d with f j
 subst f;subst j;exact p
theorem As.tail(h:As w (nS a n c) sz n xs)(k m d:Nat)(s:n=m+k)(q:m<=d):As w (nS (Option.map (fun x=>x.add (k*sz)) a) m d) sz m (xs.drop (k*sz)):=by
 obtain⟨t,u,j,y,l,p⟩:=h;injection j with g _ _
 subst g;refine⟨_,_,rfl,q,by rw[Qm,l,s,Nat.add_mul];omega,fun i v f=> ?_⟩;rw[List.getElem?_drop]at f;obtain⟨b,o,e,r⟩:=p _ v f;subst e;refine⟨b,o+k*sz, ?_,by rw[Nat.add_assoc];exact r⟩;simp[FB]
theorem As.tail1(h:As w (nS (nM ⟨b,o,nN⟩) (n+1) c) 1 (n+1) (x::xs))(a:Nat)(d:n<=a):As w (nS (nM ⟨b,o+1,nN⟩) n a) 1 n xs:=by
 have:=h.tail 1 n a rfl d;simpa[FB]using this
theorem As.next(h:As w (nS (nM ⟨b,o,nN⟩) m c) 1 m (x::xs))(a:Nat)(e:M=xs.length)(f:M<=a):As w (nS (nM ⟨b,o+1,nN⟩) M a) 1 xs.length xs:=by
 subst e;have g:m=xs.length+1:=by obtain⟨_,_,_,_,d,_⟩:=h;simp at d;omega
 subst g;exact h.tail1 a f
theorem ED(e:xs.length=0)(b:M=xs.length):As w (nS a M c) 1 xs.length xs:=by
 have:xs=[]:=List.eq_nil_of_length_eq_zero e;subst this;subst b;exact⟨_,_,rfl,Nat.zero_le _,Zh,fun i v d=>by simp at d⟩
theorem As.nextZ{us:List Vl}(h:As w (nS (nM ⟨b,o,nN⟩) m c) sz m (us++xs))(a:Nat)(i:us.length=sz)(e:m=M+1)(g:M=n)(f:M<=a):As w (nS (nM ⟨b,o+sz,nN⟩) M a) sz n xs:=by
 subst g;have d:=h.tail 1 M a e f;rw[Nat.one_mul,List.drop_append,List.drop_of_length_le Zj,i,Nat.sub_self,List.drop_zero,List.nil_append]at d;simpa[FB]using d
theorem Ei(b:M=0)(d:n=0)(f:xs.length=0):As w (nS a M c) sz n xs:=by
 subst b;subst d;have:xs=[]:=List.eq_nil_of_length_eq_zero f;subst this;exact⟨_,_,rfl,Nat.zero_le _,Zh,fun i v e=>by simp at e⟩
theorem As.head(h:As w (nS a n c) sz n xs)(k:Nat)(l:k<=n):As w (nS a k c) sz k (xs.take (k*sz)):=by
 obtain⟨m,o,f,p,g,j⟩:=h;injection f with d _ e
 subst d;subst e;refine⟨_,_,rfl,Zj,by rw[Ql,g];exact Nat.min_eq_left (Nat.mul_le_mul_right _ l),fun i v b=> ?_⟩
 have hi:i<k*sz:=by
  have:=(Qc.1 b).1;rw[Ql]at this;omega
 rw[List.getElem?_take_of_lt hi]at b;exact j i v b
theorem AK.rowC(h:AK w sv e xs):As w sv 1 xs.length xs:=by
 obtain⟨a,c,rfl,j⟩:=h.form;have f:=h.capLe;refine⟨a,c,rfl,f.2,Zh,fun i v b=> ?_⟩;obtain⟨g,rfl⟩:=j (by intro d;subst d;simp at b);exact⟨g,0,rfl,by rw[Nat.zero_add];exact h.cell rfl i v b⟩
def LD:Vl->Nat
 | nS _ n _=>n
 |_=>0
end
section
open _root_.Go.Proofs.Tryz
open Go Go.RowKit
theorem WF:(prog.info? 21).map (fun i=>(i.zero,i.size,i.bytes))=nM (nM (nI .i32 0),1,4):=Yb
theorem WG:(prog.info? 3).map (fun i=>(i.zero,i.size,i.bytes))=nM (nM (nI nX 0),1,8):=Yb
theorem QQ:(prog.info? 294).map (fun i=>(i.zero,i.size,i.bytes))=nM (nM (nI .u16 0),1,2):=Yb
def L3(l:List Int):List Vl:=l.map (Vl.int .i32)
theorem MS{s:BY}:∀(f p:Nat) (l:List Int),Utf.Ch s f p=nM l->l.length<=s.size-p
 |0,p,l,h=>by
  simp only[Utf.Ch]at h;split at h
  .injection h with h;subst h;simp
  .cases h
 |f+1,p,l,h=>by
  simp only[Utf.Ch]at h;split at h
  .injection h with h;subst h;simp
  .rename_i d;split at h
   .rename_i b;obtain⟨c,a,rfl⟩:=Option.map_eq_some_iff.1 h;have:=MS f _ c a;have e:=((Utf.El Zj).1 b).1;simp only[Qj];omega
   .cases h
theorem XC(s:BY)(L:List Int)(w:Wl)(hs:s.size<=2147483648)(Y:Utf.Sb s=nM L):
  Cl prog 211 #[nG s] w fun e w'=>(∃v u,e= nR (nT #[v,u])/\AK w' v 21 (L3 L)/\∀g,v.ownBlock=nM g->w.heap.size<=g)/\Chg w w' []:=by
 have HL:=hZ Y;clear Y;go_enter func211,ntmps211;go_wp2
 go_loopw [4,5,6] (fun H I J wr=>∃(p k:Nat) (b rest:List Int) (ys:List Vl),p<=s.size/\s.size<=p+k/\J= nI nX p/\Utf.Ch s k p=nM rest/\L=b++rest/\b.length<=p/\ys.length<=p/\AK wr H 21 (L3 b)/\AK wr I 3 ys/\Chg w wr []/\
   (∀g,H.ownBlock=nM g->w.heap.size<=g)/\(∀g,I.ownBlock=nM g->w.heap.size<=g)/\(∀g,H.ownBlock=nM g->I.ownBlock=nM g->False)) (fun _ _ J _=>s.size-(intOf J).toNat)
 case atStart=>exact⟨0,s.size,[],L,[],Zj,Zj,rfl,HL.o,rfl,Zh,Zh,AK.nil _ _,AK.nil _ _,Chg.refl _ _,fun g a=>(by cases a),fun g a=>(by cases a),fun g a=>(by cases a)⟩
 case round=>
  obtain⟨K,rfl⟩:=Ue wr;obtain⟨p,k,b,rest,ys,hp,hk,rfl,hr,af,ax,az,aa,ab,a,ah,ai,hd⟩:=hrel;have l:=hZ hr;have S:=hZ af;have R:=hZ aa;have z:=hZ ab;have x:=hZ a;have C:=hZ ah;have T:=hZ ai;have t:=hZ hd;clear hr af aa ab a ah ai hd;by_cases ag:p<s.size
  .obtain⟨o,rfl⟩:∃o,k=o+1:=⟨k-1,Zj⟩
   have f:Utf.NE s p=true:=by
    have:=l.o;simp only[Utf.Ch]at this;rw[Qs Zj]at this;cases h:Utf.NE s p with
    |true=>rfl
    |false=>rw[h]at this;simp at this
   obtain⟨q,G,i⟩:∃q,Utf.Ch s o (p+Utf.AJ s p)=nM q/\rest=Utf.GY s p::q:=by
    have:=l.o;simp only[Utf.Ch]at this;rw[Qs Zj,f,Qr rfl]at this;obtain⟨l',m,n⟩:=Option.map_eq_some_iff.1 this;exact⟨l',m,n.symm⟩
   have aq:1<=Utf.AJ s p/\Utf.AJ s p<=4:=by
    have m:=((Utf.El ag).1 f).1;have n:=Utf.Io (Utf.Aj s p);unfold Utf.AJ at*;omega
   have ap:p+Utf.AJ s p<=s.size:=by unfold Utf.NE at f;simp at f;omega
   have B:=hZ (RS s p K hs ag f);obtain⟨wi,ak⟩:=Ue (Utf.AJ s p);obtain⟨j,aj⟩:=Ue (Utf.GY s p);rw[<-ak]at aq ap G B;rw[<-aj]at i B;clear ak aj;have an:=hZ G;have ao:=hZ i;have A:Hid ((L3 b).length=b.length):=by unfold Hid L3;simp
   clear f G i l;have ay:wi<=s.size:=Zj
   go_wp2_with(first
    |(go_at_call 153;refine B.o.mono ?_;rintro e w' ⟨rfl,rfl⟩)
    |(at_builtin;refine AM rfl _ _ _ rfl 21 (nI .i32 0) 4 underlying321 WF rfl u4 (L3 b) ZN (by exact R.o.kept (bs:=[]) (by exact cg cR) Zh) K.heap.size (nI .i32 j) ZN (by exact Bx Zh _ _) rfl (by rw[A.o];omega) (by rw[A.o];omega) ?_;rw[A.o];intro g ar r Z E W;obtain⟨nb,aw⟩:=Ue r.heap.size;have Q:=hZ Z;have N:=hZ E;have y:=hZ W;have al:=hZ ((z.o.kept ((Chg.refl K []).alloc (nC #[nI .i32 j] 21))).kept E (fun g a F=>t.o g (by simpa using F) a));clear Z E W)
    |(at_builtin;refine AM rfl _ _ _ rfl 3 (nI nX 0) 8 underlying322 WG rfl u5 ys ZN (by exact al.o.kept (bs:=[]) (by exact cg cR) Zh) r.heap.size (nI nX p) ZN (by exact Bx Zh _ _) rfl Zj Zj ?_;intro g5 au w5 ad V X;have am:=hZ ad;have O:=hZ V;have P:=hZ X;clear ad V X))
   go_roundw
   case rel=>
    have M:Chg w r []:=Chg.own (sv:= nS nN 0 0) (by exact cg x.o) N.o (fun g a=>by cases a) (fun g a=> .inr (C.o g a));have G2:Chg w w5 []:=Chg.own (sv:= nS nN 0 0) (by exact cg M) O.o (fun g a=>by cases a) (fun g a=> .inr (T.o g a));have z1:=x.o.size;have z2:=M.size;have z3:=N.o.size;simp only[World.size_alloc]at z3
    have av:g≠g5:=by
     intro he;rcases P.o with h|h
     .have l5:=z.o.lt h;rcases y.o with d|d
      .exact t.o _ d (he▸h)
      .simp at d;omega
     .have l3:=Q.o.lt (g:=g) rfl;simp at h;omega
    refine⟨p+wi,o,b++[j],q,ys++[nI nX p],Zj,Zj,by go_num,an.o,by rw[S.o,ao.o];simp,by simp;omega,by simp;omega, ?_,by simpa using am.o,G2, ?_, ?_, ?_⟩
    .have h:=(Q.o.kept ((Chg.refl r []).alloc (nC #[nI nX p] 3))).kept O.o (fun D c F=>by
      simp[Vl.ownBlock]at c;subst c;have U:u5.ownBlock=nM g:=by simpa using F
      rcases y.o with d|d
      .exact t.o _ d U
      .have l5:=z.o.lt U
       simp at d;omega)
     rw[show L3 (b++[j])=L3 b++[nI .i32 j]from by simp[L3]];exact h
    .intro D c;simp[Vl.ownBlock]at c;subst c;rcases y.o with h|h
     .exact C.o _ h
     .simp at h;omega
    .intro D c;simp[Vl.ownBlock]at c;subst c;rcases P.o with h|h
     .exact T.o _ h
     .simp at h;omega
    .intro D m n;simp[Vl.ownBlock]at m n;omega
   case measure=>simp[intOf];omega
  .obtain rfl:p=s.size:=by omega
   have i:rest=[]:=by
    have:=l.o;cases k with
    |zero=>simp[Utf.Ch]at this;exact this
    |succ k=>simp[Utf.Ch]at this;exact this
   subst i;have ae:=S.o;rw[List.append_nil]at ae;subst ae;go_wp2;go_ret2;exact⟨⟨_,_,rfl,R.o,C.o⟩,x.o⟩
end
section
open _root_.Go.Proofs.Tryz
open Go Go.RowKit Tree
def vC(d:Int)(flag:Bool)(a:Int)(text:BY)(b c:Vl):List Vl:=[nI nX d,.bool flag,nI .u64 a,nG text,b,c]
theorem Jy(d:Int)(flag:Bool)(a:Int)(text:BY)(b c:Vl):(vC d flag a text b c).toArray=#[nI nX d,.bool flag,nI .u64 a,nG text,b,c]:=rfl
theorem A9:(prog.info? 29).map (·.size)=nM 6:=Yb
def Tl(b:Nat):Nat:=if b=9223372036854775808 then 0 else b
theorem zs{p:Prop}(h:p:=by clear a h;go_enter func93,ntmps93;go_wp2;refine bodyPost_ret (uP (Ac.new w _ _)) rfl ⟨rfl,(Chg.refl w []).alloc _⟩):p:=h
theorem YM(b:Nat)(w:Wl):
  Cl prog 93 #[nI .u64 b] w fun e w'=>e= nR (nA (vC 3 false (Tl b) ⟨#[]⟩ (nS nN 0 0) (nS nN 0 0)).toArray)/\Chg w w' []:=by
 by_cases h:b=9223372036854775808
 .have a:Tl b=0:=by unfold Tl;rw[Qr h]
  rw[a];have d:((b:Int)==9223372036854775808)=true:=by simp;omega
  exact zs
 .have a:Tl b=b:=by unfold Tl;rw[Qs h]
  rw[a];have d:((b:Int)==9223372036854775808)=false:=by simp;omega
  exact zs
end
end Go.Proofs.YtamgbmcchhmojaaGreatDoor

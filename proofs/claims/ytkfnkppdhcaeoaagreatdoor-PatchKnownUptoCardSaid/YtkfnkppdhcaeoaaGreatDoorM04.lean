/- Part 4 of the proof of coreBase. -/
import Derived.BigQuiet
import Derived.Deep.AppendLies
import Derived.Deep.LoopGhost
import Derived.Deep.QuietTactic
import Derived.Deep.RegionHeld3
import Derived.Deep.RegionLaw
import Derived.Defers
import Derived.LaidEql
import Derived.Outline
import Derived.Recover
import Derived.StillTailTactics
import Derived.Test.YtkfnkppdhcaeoaaGreatDoorM03
set_option maxRecDepth 100000
set_option maxHeartbeats 32000000
set_option linter.all false
namespace Go.Proofs.YtkfnkppdhcaeoaaGreatDoor
open Go renaming Calls->Cl,TypeId->Ti,Value->Vl,World->Wl
open Go.Value renaming agg->nA,iface->nF,int->nI,pointer->nP,slice->nS,string->nG,tuple->nT
open Go.IntKind renaming i64->nX
open Go.Ending renaming returned->nR
open Go.Obj renaming cells->nC
open Option renaming none->nN,some->nM
section
open _root_.Go.Proofs.Tryz
open Go Go.RowKit
theorem Th(n:Nat)(w:Wl):Cl prog 110 #[.float .f64 n] w fun e w'=>e= nR (.bool (Ieee.double.order n n !=nM .eq))/\w=w':=by
 go_enter func110,ntmps110
 go_wp2
 go_ret
 exact⟨rfl,rfl⟩
theorem GW(n:Int)(w:Wl):(callFunc 109 #[nI .u64 n]).run prog w= .ok (.value (.float .f64 n.toNat)) w:=Yb
theorem GX(n:Nat)(w:Wl):(callFunc 67 #[.float .f64 n]).run prog w= .ok (.value (nI .u64 n)) w:=Yb
theorem Wh(n:Nat)(a:n<18446744073709551616):(bits BinOp.andNot IntKind.u64 (n:Int) 9223372036854775808).toNat=n % 9223372036854775808:=by
 have:=u64_andNot_nat n 9223372036854775808 a ZM;rw[show((9223372036854775808:Nat):Int)=9223372036854775808 from rfl]at this;rw[this,Int.toNat_natCast,show 18446744073709551615-9223372036854775808=2^63-1 from by decide,Nat.and_two_pow_sub_one_eq_mod]
theorem WT(n:Nat)(a:n<18446744073709551616)(w:Wl):Cl prog 154 #[.float .f64 n] w fun e w'=>e= nR (.float .f64 (n % 9223372036854775808))/\w=w':=by
 have b:=hZ (Wh n a);have c:=GX;have d:=GW;clear a;go_enter func154,ntmps154
 go_wp2
 go_ret
 exact⟨congrArg (fun k=>Ending.returned (.float .f64 k)) b.o,rfl⟩
theorem Tg(n:Nat)(a:n<18446744073709551616)(w:Wl):Cl prog 111 #[.float .f64 n,nI nX 0] w fun e w'=>e= nR (.bool (Ieee.double.order (n % 9223372036854775808) 9218868437227405311==nM .gt))/\w=w':=by
 have b:=hZ a;clear a;go_enter func111,ntmps111
 go_wp2_with(first|(go_at_call 154;refine(WT _ b.o _).mono ?_;rintro e w' ⟨rfl,rfl⟩))
 go_ret
 exact⟨rfl,rfl⟩
theorem FO(n:Nat)(w:Wl):Cl prog 110 #[.float .f64 n] w fun e w'=>e= nR (.bool (decide (9218868437227405312<Fl.A7 n)))/\w=w':=by
 rw[<-Fl.N9];exact Th n w
theorem bJ(n:Nat)(a:n<18446744073709551616)(w:Wl):Cl prog 111 #[.float .f64 n,nI nX 0] w fun e w'=>e= nR (.bool (decide (Fl.A7 n=9218868437227405312)))/\w=w':=by
 rw[<-Fl.N8];exact Tg n a w
def KN(n:Int):Vl:= nF 174 (nA #[nI nX n])
def By(n:Int):Ending:= .panicked [{v:=KN n,recovered:=false}]
theorem Bv(n:Int)(w:Wl):Cl prog 53 #[.bool true,nI nX n] w fun e w'=>e= nR (nT #[])/\w=w':=by
 go_enter func53,ntmps53
 go_wp2
 go_end0
 exact⟨rfl,rfl⟩
theorem Bu(n:Int)(w:Wl):Cl prog 53 #[.bool false,nI nX n] w fun e w'=>e=By n/\Chg w w' []:=by
 go_enter func53,ntmps53
 go_wp2
 exact⟨rfl,rfl,Chg.refl _ _⟩
theorem Pj(n:Nat)(w:Wl):Cl prog 323 #[.float .f64 n] w fun e w'=>e= nR (nI .u64 n)/\w=w':=by
 have a:=GX;go_enter func323,ntmps323
 go_wp2
 go_ret
 exact⟨rfl,rfl⟩
end
section
open Go Go.RowKit
def AK(w:Wl)(sv:Vl)(e:Ti)(xs:List Vl):Prop:=w.ownsRow 0 e 1 sv xs.length xs
theorem AK.nil(w:Wl)(e:Ti):AK w (nS nN 0 0) e []:=World.ownsRow_nil w 0 e 1
theorem AK.kept{w w':Wl}{sv:Vl}{e:Ti}{xs:List Vl}{bs:List Nat}(h:AK w sv e xs)(k:Chg w w' bs)(l:∀g,sv.ownBlock=nM g->g∉bs:=by simp):AK w' sv e xs:=by
 obtain⟨i,a⟩:=h;refine⟨i, ?_⟩
 rcases a with a|⟨g,d,f,c,j,b,r⟩
 .exact .inl a
 .refine .inr ⟨g,d,f,c,j, ?_,r⟩
  rw[k.block g (Array.getElem?_eq_some_iff.1 b).1 (l g (by subst c;rfl))];exact b
theorem AK.form{w:Wl}{sv:Vl}{e:Ti}{xs:List Vl}(h:AK w sv e xs):∃a b,sv= nS a xs.length b/\(xs≠[]->∃g,a=nM ⟨g,0,nN⟩):=by
 rcases h.2 with⟨d,c⟩|⟨g,b,j,f,_⟩
 .exact⟨nN,0,by rw[d,c],fun i=>absurd (List.eq_nil_of_length_eq_zero c) i⟩
 .exact⟨_,b,f,fun _=>⟨g,rfl⟩⟩
theorem AK.cell{w:Wl}{sv:Vl}{e:Ti}{xs:List Vl}(h:AK w sv e xs){g:Nat}(a:sv.ownBlock=nM g)(i:Nat)(v:Vl)(b:xs[i]? =nM v):w.cell? ⟨g,i,nN⟩=nM v:=by
 have:=World.ownsRow.cells h a i v b;rwa[show(⟨g,0,nN⟩:Addr).add i=⟨g,i,nN⟩from by unfold Addr.add;split<;>simp_all]at this
theorem AK.lt{w:Wl}{sv:Vl}{e:Ti}{xs:List Vl}(h:AK w sv e xs){g:Nat}(a:sv.ownBlock=nM g):g<w.heap.size:=(World.ownsRow.lt h g a).2
theorem AM{P:Program}{m:Array Oper}{rest:List Oper}{o:Oper}{a:Act}{Q:Exit->Act->Wl->Prop}{w:Wl}(A:o.guard=nN)(s x:Operand)(t:Ti)(F:o.op= .call {callee:= .builtin .append,args:=#[s,x],argTypes:=#[t,t]})(e:Ti)(z:Vl)(f:Nat)(L:P.underlying t=nM (.slice e))(C:(P.info? e).map (fun i=>(i.zero,i.size,i.bytes))=nM (nM z,1,f))(S:z.cells.size=1)(sv:Vl)(xs:List Vl)(I:a.eval s=sv)(G:AK w sv e xs)(B:Nat)(u:Vl)(O:a.eval x= nS (nM ⟨B,0,nN⟩) 1 1)(M:w.cell? ⟨B,0,nN⟩=nM u)(N:u.oneCell'=true)(l:(xs.length+1)*f<=140737488355328)(U:xs.length<=140737488355328)(h:∀g d w',AK w' (nS (nM ⟨g,0,nN⟩) (xs.length+1) d) e (xs++[u])->Chg w w' sv.ownBlock.toList->(sv.ownBlock=nM g\/g=w.heap.size)->
   wpList P m Q rest (a.put o.dst (nS (nM ⟨g,0,nN⟩) (xs.length+1) d)) w'):wpList P m Q (o::rest) a w:=by
 obtain⟨i,hi,R,J,r⟩:=info_parts C
 have E:∀j v,[u][j]? =nM v->w.cell? ((⟨B,0,nN⟩:Addr).add j)=nM v:=by
  intro j v b
  match j,b with
  |0,b=>simp at b;subst b;exact M
  |j+1,b=>simp at b
 obtain⟨g,d,w',H,n,c,p,T⟩:=run_append_lies (P:=P) w t o.type 0 e i z 1 f L hi R J r S ZM sv xs.length xs G ⟨B,0,nN⟩ 1 1 [u] rfl E (by simpa using N) ZM (by unfold maxLen;omega) l (Nat.zero_le _) _ rfl;refine wpList_plain A fun K q=> ?_
 unfold Oper.wp execOp;simp only[F,resolve,invoke,builtin,Sem.run_bind,Sem.run_pure,Result.andThen_ok,List.map_toArray,List.map_cons,List.map_nil,I,O,H];exact q _ _ (h g d w' (by unfold AK;rw[Qk];exact n) ⟨c.os,c.tape,c.output,c.size,fun k D l=>c.block k D fun y=>l (by rw[<-y];simp)⟩ p)
theorem Df{P:Program}{m:Array Oper}{o:Oper}{a:Act}{K:Act->Wl->Prop}{Q:Exit->Act->Wl->Prop}{E:Prop}{w:Wl}(y:o.guard=nN)(s x:Operand)(t:Ti)(F:o.op= .call {callee:= .builtin .append,args:=#[s,x],argTypes:=#[t,t]})(e:Ti)(z:Vl)(f:Nat)(L:P.underlying t=nM (.slice e))(A:(P.info? e).map (fun i=>(i.zero,i.size,i.bytes))=nM (nM z,1,f))(T:z.cells.size=1)(sv:Vl)(xs:List Vl)(I:a.eval s=sv)(G:AK w sv e xs)(B:Nat)(u:Vl)(R:a.eval x= nS (nM ⟨B,0,nN⟩) 1 1)(M:w.cell? ⟨B,0,nN⟩=nM u)(N:u.oneCell'=true)(l:(xs.length+1)*f<=140737488355328)(V:xs.length<=140737488355328)(h:∀g d w',AK w' (nS (nM ⟨g,0,nN⟩) (xs.length+1) d) e (xs++[u])->Chg w w' sv.ownBlock.toList->(sv.ownBlock=nM g\/g=w.heap.size)->
   K (a.put o.dst (nS (nM ⟨g,0,nN⟩) (xs.length+1) d)) w'):
  if Region.wanted o (yielded m a.tmps)=true then Oper.wp P o a w K Q else E:=by
 obtain⟨i,hi,S,J,q⟩:=info_parts A
 have D:∀j v,[u][j]? =nM v->w.cell? ((⟨B,0,nN⟩:Addr).add j)=nM v:=by
  intro j v b
  match j,b with
  |0,b=>simp at b;subst b;exact M
  |j+1,b=>simp at b
 obtain⟨g,d,w',H,n,c,p,U⟩:=run_append_lies (P:=P) w t o.type 0 e i z 1 f L hi S J q T ZM sv xs.length xs G ⟨B,0,nN⟩ 1 1 [u] rfl D (by simpa using N) ZM (by unfold maxLen;omega) l (Nat.zero_le _) _ rfl;have O:Region.wanted o (yielded m a.tmps)=true:=by simp[Region.wanted,y]
 rw[Qr O];unfold Oper.wp execOp;simp only[F,resolve,invoke,builtin,Sem.run_bind,Sem.run_pure,Result.andThen_ok,List.map_toArray,List.map_cons,List.map_nil,I,R,H];exact(h g d w' (by unfold AK;rw[Qk];exact n) ⟨c.os,c.tape,c.output,c.size,fun k C l=>c.block k C fun r=>l (by rw[<-r];simp)⟩ p)
theorem AK.capLe{w:Wl}{a:Option Addr}{n b:Nat}{e:Ti}{vs:List Vl}(h:AK w (nS a n b) e vs):n=vs.length/\vs.length<=b:=by
 rcases h.2 with⟨c,j⟩|⟨g,f,i,d,_,_,k,_⟩
 .injection c;omega
 .injection d;omega
theorem AK.pop{w:Wl}{a:Option Addr}{b:Nat}{e:Ti}{vs:List Vl}(h:AK w (nS a vs.length b) e vs)(k:Nat)(v:k<=vs.length):AK w (nS a k b) e (vs.take k):=by
 have f:(vs.take k).length=k:=by rw[Ql];omega
 refine⟨Zh, ?_⟩
 rcases h.2 with⟨c,s⟩|⟨g,r,i,d,o,p,u,l,m,n⟩
 .injection c with c t j
  subst c;subst j;have:k=0:=Zj
  subst this;exact .inl ⟨rfl,Zh⟩
 .injection d with d x q
  subst d;subst q;refine .inr ⟨g,b,i,by rw[f],o,p,Zj,l,m, ?_⟩;rw[f,Nat.mul_one,<-n,List.take_take]
  congr 1
  omega
theorem AK.lit(w:Wl)(cs:List Vl)(e:Ti)(n:Nat)(b:cs.length=n)(a:n<=maxLen):AK (w.alloc (nC cs.toArray e)) (nS (nM ⟨w.heap.size,0,nN⟩) n n) e cs:=by
 subst b;exact World.ownsRow_lit w cs.toArray cs.length (Nat.zero_le _) a Zh
theorem LC{P:Program}(w:Wl)(t g e:Ti)(i:TypeInfo)(f:P.underlying t=nM (.slice e))(hi:P.info? e=nM i)(a:Option Addr)(n b:Nat)(d:n<=b)(x:Option Addr)(c:Nat):
  (Builtin.append_ #[t,t] g #[nS a n b,nS x 0 c]).run P w= .ok (nS a n b) w:=by
 cases a with
 |none=>cases x<;>simp[Builtin.append_,run_underlying f,sizeOf,typeInfo,hi,Builtin.lenOf,Builtin.firstCells,d]<;>rfl
 |some a=>
  cases x<;>simp[Builtin.append_,run_underlying f,sizeOf,typeInfo,hi,Builtin.lenOf,Builtin.firstCells,d]<;>rfl
theorem A1{P:Program}{f:Array Oper}{rest:List Oper}{o:Oper}{a:Act}{Q:Exit->Act->Wl->Prop}{w:Wl}(k:o.guard=nN)(s x:Operand)(t:Ti)(l:o.op= .call {callee:= .builtin .append,args:=#[s,x],argTypes:=#[t,t]})(e:Ti)(i:TypeInfo)(q:P.underlying t=nM (.slice e))(hi:P.info? e=nM i)(b:Option Addr)(n d:Nat)(j:n<=d)(p:a.eval s= nS b n d)(y:Option Addr)(c:Nat)(r:a.eval x= nS y 0 c)(h:wpList P f Q rest (a.put o.dst (nS b n d)) w):wpList P f Q (o::rest) a w:=by
 have m:=LC (P:=P) w t o.type e i q hi b n d j y c;refine wpList_plain k fun K g=> ?_
 unfold Oper.wp execOp;simp only[l,resolve,invoke,builtin,Sem.run_bind,Sem.run_pure,Result.andThen_ok,List.map_toArray,List.map_cons,List.map_nil,p,r,m];exact g _ _ h
end
section
open _root_.Go.Proofs.Tryz
open Go Go.RowKit
def Ho:Vl:= nG ⟨#[]⟩
theorem Ge:(prog.info? 62).map (fun i=>(i.zero,i.size,i.bytes))=nM (nM .nilIface,1,16):=Yb
theorem Cf:(prog.info? 9).map (fun i=>(i.zero,i.size,i.bytes))=nM (nM Ho,1,16):=Yb
theorem ZO:(prog.info? 5).map (fun i=>(i.zero,i.size,i.bytes))=nM (nM (nI .u8 0),1,1):=Yb
theorem FB(b o j:Nat):(⟨b,o,nN⟩:Addr).add j=⟨b,o+j,nN⟩:=by
 unfold Addr.add;split
 .simp_all
 .rfl
def Dm(w:Wl)(e:Ti)(vs:List Vl)(r:Ending)(w':Wl):Prop:=
 ∃v,r= nR v/\AK w' v e vs/\(∀g,v.ownBlock=nM g->w.heap.size<=g)/\Chg w w' []
theorem Dm.own{w d w2:Wl}{e:Ti}{vs:List Vl}{v:Vl}(h:w2.ownsRow w.heap.size e 1 v vs.length vs)(m:Chg w d [])(o:d.grownBy w2 (nM w.heap.size))(n:d.drawn<=w2.drawn):Dm w e vs (nR v) w2:=by
 refine⟨v,rfl, ?_,fun g p=>(World.ownsRow.lt h g p).1,m.grown o n fun k c q=> ?_⟩
 .obtain⟨a,b⟩:=h
  refine⟨a, ?_⟩
  rcases b with b|⟨g,j,l,f,_,i⟩
  .exact .inl b
  .exact .inr ⟨g,j,l,f,Nat.zero_le _,i⟩
 .injection c with c;subst c;exact absurd q (Nat.lt_irrefl _)
theorem FY{P:Program}{m:Array Oper}{rest:List Oper}{o:Oper}{a:Act}{Q:Exit->Act->Wl->Prop}{w:Wl}(B:o.guard=nN)(s x:Operand)(t:Ti)(E:o.op= .call {callee:= .builtin .append,args:=#[s,x],argTypes:=#[t,t]})(base:Nat)(e:Ti)(z:Vl)(g:Nat)(I:P.underlying t=nM (.slice e))(C:(P.info? e).map (fun i=>(i.zero,i.size,i.bytes))=nM (nM z,1,g))(M:z.cells.size=1)(v:Vl)(G:a.eval s=v)(F:w.ownsRow base e 1 v 0 [])(f:Addr)(c:Nat)(b:List Vl)(J:a.eval x= nS (nM f) b.length c)(D:∀j u,b[j]? =nM u->w.cell? (f.add j)=nM u)(n:∀u∈b,u.oneCell'=true)(N:b.length<=140737488355328)(A:b.length*g<=140737488355328)(r:base<=w.heap.size)(h:∀d w',w'.ownsRow base e 1 d b.length b->w.grownBy w' v.ownBlock->w.drawn<=w'.drawn->wpList P m Q rest (a.put o.dst d) w'):wpList P m Q (o::rest) a w:=by
 obtain⟨i,hi,L,H,y⟩:=info_parts C;obtain⟨d,w',l,k,p,_⟩:=run_append_own (P:=P) w base t o.type e i z 1 g I hi L H y M ZM v 0 [] F f b.length c b Zh D n (by unfold maxLen;omega) (by rw[Nat.zero_add];exact A) r;rw[Nat.zero_add,List.nil_append]at k;refine wpList_plain B fun K q=> ?_
 unfold Oper.wp execOp;simp only[E,resolve,invoke,builtin,Sem.run_bind,Sem.run_pure,Result.andThen_ok,List.map_toArray,List.map_cons,List.map_nil,G,J,l];exact q _ _ (h d w' k p (Vw _ _ _ _ l))
theorem Hd(b:Addr)(c:Nat)(vs:List Vl)(w:Wl)(f:∀j u,vs[j]? =nM u->w.cell? (b.add j)=nM u)(d:∀u∈vs,u.oneCell'=true)(r:vs.length<=4294967296):
  Cl prog 155 #[nS (nM b) vs.length c] w (Dm w 62 vs):=by
 have s:=fun(q:Wl) (a:Option Addr) (n c:Nat)=>Lib.run_eql_slice_nil (P:=prog) q 127 62 a n c 0 0 underlying127
 have i:=hZ d;have k:=hZ f;have h:=hZ (World.ownsRow_made w (e:=62) (size:=1) (base:=w.heap.size) #[] 0 (Q8 _) ZM Zh);clear d f;go_enter func155,ntmps155
 go_wp2_with(first
  |(at_builtin;refine FY rfl _ _ 127 rfl w.heap.size 62 .nilIface 16 underlying127 Ge rfl _ rfl h.o b c vs rfl ?c1 i.o ?c3 ?c4 ?c5 ?_))
 case c1=>intro j u p;exact((Chg.refl w []).alloc _).keeps (k.o j u p)
 case c3=>omega
 case c4=>omega
 case c5=>simp
 intro t v g o m;have l:=hZ g;clear g;go_wp2
 go_ret
 exact Dm.own l.o ((Chg.refl w []).alloc _) o m
theorem LW(F:Nat->Prop)(s:Vl)(vs:List Vl)(w:Wl)(l:Ax w F s vs)(f:∀u∈vs,u.oneCell'=true)(k:vs.length<=4294967296):
  Cl prog 155 #[s] w (Dm w 62 vs):=by
 rcases l with⟨rfl,a,c,rfl⟩|⟨b,o,c,rfl,_,h⟩
 .cases a with
  |none=>
   have p:=fun(m:Wl) (a:Option Addr) (n c:Nat)=>Lib.run_eql_slice_nil (P:=prog) m 127 62 a n c 0 0 underlying127
   go_enter func155,ntmps155
   go_wp2
   go_ret
   exact⟨_,rfl,AK.nil _ _,fun g i=>(by cases i),Chg.refl _ _⟩
  |some e=>exact Hd e c [] w (fun j u d=>by simp at d) (fun u d=>by simp at d) Zh
 .exact Hd ⟨b,o,nN⟩ c vs w (fun j u d=>by rw[FB];exact h j u d) f k
theorem FI(b:Addr)(c:Nat)(vs:List Vl)(w:Wl)(f:∀j u,vs[j]? =nM u->w.cell? (b.add j)=nM u)(d:∀u∈vs,u.oneCell'=true)(r:vs.length<=4294967296):
  Cl prog 42 #[nS (nM b) vs.length c] w (Dm w 9 vs):=by
 have s:=fun(q:Wl) (a:Option Addr) (n c:Nat)=>Lib.run_eql_slice_nil (P:=prog) q 27 9 a n c 0 0 underlying27
 have i:=hZ d;have k:=hZ f;have h:=hZ (World.ownsRow_made w (e:=9) (size:=1) (base:=w.heap.size) #[] 0 (Q8 _) ZM Zh);clear d f;go_enter func42,ntmps42
 go_wp2_with(first
  |(at_builtin;refine FY rfl _ _ 27 rfl w.heap.size 9 Ho 16 underlying27 Cf rfl _ rfl h.o b c vs rfl ?c1 i.o ?c3 ?c4 ?c5 ?_))
 case c1=>intro j u p;exact((Chg.refl w []).alloc _).keeps (k.o j u p)
 case c3=>omega
 case c4=>omega
 case c5=>simp
 intro t v g o m;have l:=hZ g;clear g;go_wp2
 go_ret
 exact Dm.own l.o ((Chg.refl w []).alloc _) o m
theorem DL(F:Nat->Prop)(s:Vl)(vs:List Vl)(w:Wl)(l:Ax w F s vs)(f:∀u∈vs,u.oneCell'=true)(k:vs.length<=4294967296):
  Cl prog 42 #[s] w (Dm w 9 vs):=by
 rcases l with⟨rfl,a,c,rfl⟩|⟨b,o,c,rfl,_,h⟩
 .cases a with
  |none=>
   have p:=fun(m:Wl) (a:Option Addr) (n c:Nat)=>Lib.run_eql_slice_nil (P:=prog) m 27 9 a n c 0 0 underlying27
   go_enter func42,ntmps42
   go_wp2
   go_ret
   exact⟨_,rfl,AK.nil _ _,fun g i=>(by cases i),Chg.refl _ _⟩
  |some e=>exact FI e c [] w (fun j u d=>by simp at d) (fun u d=>by simp at d) Zh
 .exact FI ⟨b,o,nN⟩ c vs w (fun j u d=>by rw[FB];exact h j u d) f k
end
section
open _root_.Go.Proofs.Tryz
open Go Go.RowKit Tree
structure C3(w:Wl)(F:Nat->Prop)(T:Ti)(b:Nat)(sv:Vl)(l:List Tr)(vs:List Vl):Prop where
 blk:Ac w b [sv] T
 lst:AK w sv 62 vs
 items:Ak w F l vs
 apart:¬F b
 apart':∀g,sv.ownBlock=nM g->¬F g/\g≠b
 lt:∀k,F k->k<w.heap.size
theorem C3.notOwn{w:Wl}{F:Nat->Prop}{T:Ti}{b:Nat}{sv:Vl}{l:List Tr}{vs:List Vl}(h:C3 w F T b sv l vs):b∉sv.ownBlock.toList:=
 fun a=>(h.apart' b (by simpa using a)).2 rfl
theorem Af.oneCell{w:Wl}{F:Nat->Prop}{t:Tr}{v:Vl}(h:Af w F t v):v.oneCell'=true:=by
 cases t with
 |null=>simp only[Af]at h;subst h;rfl
 |flag b=>simp only[Af]at h;subst h;rfl
 |num b=>simp only[Af]at h;subst h;rfl
 |text s=>simp only[Af]at h;subst h;rfl
 |list l=>
  simp only[Af]at h;obtain⟨b,a,vs,rfl,_⟩:=h;rfl
 |obj ks l=>
  simp only[Af]at h;obtain⟨b,sk,a,vs,rfl,_⟩:=h;rfl
theorem Ak.oneCells{w:Wl}{F:Nat->Prop}:∀{l:List Tr} {vs:List Vl},Ak w F l vs->∀u∈vs,u.oneCell'=true
 |[],_,h=>by simp only[Ak]at h;subst h;intro u a;simp at a
 |t::l,vs,h=>by
  simp only[Ak]at h;obtain⟨v,r,rfl,b,c⟩:=h;intro u a
  rcases Qh.1 a with rfl|a
  .exact b.oneCell
  .exact c.oneCells u a
theorem Af.iface{w:Wl}{F:Nat->Prop}{t:Tr}{v:Vl}(h:Af w F t v):∃c x,v= nF c x:=by
 cases t with
 |null=>simp only[Af]at h;exact⟨_,_,h⟩
 |flag b=>simp only[Af]at h;exact⟨_,_,h⟩
 |num b=>simp only[Af]at h;exact⟨_,_,h⟩
 |text s=>simp only[Af]at h;exact⟨_,_,h⟩
 |list l=>
  simp only[Af]at h;obtain⟨b,a,vs,h,_⟩:=h;exact⟨_,_,h⟩
 |obj ks l=>
  simp only[Af]at h;obtain⟨b,sk,a,vs,h,_⟩:=h;exact⟨_,_,h⟩
theorem Ak.length{w:Wl}{F:Nat->Prop}:∀{l:List Tr} {vs:List Vl},Ak w F l vs->vs.length=l.length
 |[],_,h=>by simp only[Ak]at h;subst h;rfl
 |t::l,vs,h=>by
  simp only[Ak]at h;obtain⟨v,r,rfl,_,a⟩:=h;simp[a.length]
theorem Ak.snoc{w:Wl}{F:Nat->Prop}{t:Tr}{v:Vl}(a:Af w F t v):∀{l:List Tr} {vs:List Vl},Ak w F l vs->Ak w F (l++[t]) (vs++[v])
 |[],_,h=>by
  simp only[Ak]at h;subst h;simp only[List.nil_append,Ak];exact⟨v,[],rfl,a,rfl⟩
 |e::l,vs,h=>by
  simp only[Ak]at h;obtain⟨d,r,rfl,b,c⟩:=h;simp only[Qo,Ak];exact⟨d,r++[v],rfl,b,c.snoc a⟩
def FZ(F:Nat->Prop)(T:Ti)(b:Nat)(sv:Vl)(l:List Tr)(w w':Wl):Prop:=
 ∃a c,C3 w' F T b a l c/\Chg w w' (b::sv.ownBlock.toList)/\∀g,a.ownBlock=nM g->sv.ownBlock=nM g\/w.heap.size<=g
theorem Rm(F:Nat->Prop)(t:Tr)(v:Vl)(b:Nat)(w:Wl)(a:Af w F t v)(d:(Ag t).within=false):
  Cl prog 108 #[nP (nM ⟨b,0,nN⟩),v] w fun e w'=>e= .panicked [{v:= nF 50 (nI nX 3),recovered:=false}]/\Chg w w' []:=by
 obtain⟨f,args,c,i⟩:=Gr t v a;have g:=hZ c;have h:=hZ d;have l:=hZ a;clear c d a;go_enter func108,ntmps108
 go_wp2_with(first
  |(refine Am rfl _ _ _ rfl _ rfl f args g.o _ i ?_;rintro e m ⟨rfl,j⟩;refine⟨_,rfl, ?_⟩;unfold SC)
  |(go_at_call 153;refine(FS _ _ _ _).mono ?_;rintro e w2 ⟨rfl,k⟩;rw[show Sz.within ⟨(Ag t).nodes,(Ag t).bytes,(Ag t).depth⟩=false from h.o]))
 exact⟨rfl,rfl,j.trans k⟩
theorem C3.kept{w w':Wl}{F:Nat->Prop}{T:Ti}{b:Nat}{sv:Vl}{l:List Tr}{vs:List Vl}(h:C3 w F T b sv l vs)(a:Chg w w' []):C3 w' F T b sv l vs:=
 ⟨h.blk.kept a,h.lst.kept a,Ak.kept (a.keepsF h.lt) (fun _ h=>h) l vs h.items,h.apart,h.apart',fun k c=>Q6 (h.lt k c) a.size⟩
theorem C3.newNotIn{w:Wl}{F:Nat->Prop}{T:Ti}{b:Nat}{sv:Vl}{l:List Tr}{vs:List Vl}(h:C3 w F T b sv l vs)(k:Nat)(c:w.heap.size<=k):k∉b::sv.ownBlock.toList:=by
 intro a
 rcases Qh.1 a with rfl|a
 .have:=h.blk.lt;omega
 .have:=h.lst.lt (g:=k) (by simpa using a);omega
theorem C3.push{w s w2 f:Wl}{F:Nat->Prop}{T:Ti}{b:Nat}{sv:Vl}{l m:List Tr}{vs us:List Vl}{t:Tr}{v:Vl}{g n o:Nat}(h:C3 w F T b sv l vs)(u:Ak w F m us)(D:Af w F t v)(x:Chg w s [])(y:AK w2 (nS (nM ⟨g,0,nN⟩) n o) 62 (us++[v]))(z:Chg s w2 sv.ownBlock.toList)(a:sv.ownBlock=nM g\/w.heap.size<=g)(A:Ac f b [nS (nM ⟨g,0,nN⟩) n o] T)(q:Chg w2 f [b]):FZ F T b sv (m++[t]) w f:=by
 have B:Chg w w2 sv.ownBlock.toList:=(x.none _).trans z
 have r:g≠b:=by
  rcases a with a|a
  .exact(h.apart' g a).2
  .have:=h.blk.lt;omega
 have C:¬F g:=by
  rcases a with a|a
  .exact(h.apart' g a).1
  .intro e;have:=h.lt g e;omega
 have j:Chg w f (b::sv.ownBlock.toList):=(B.mono fun k _ d=>Qg _ d).step q fun i hi _=>by simp at hi;subst hi;simp
 have d:BZ F w f:=j.keepsF h.lt fun k d e=>by
  rcases Qh.1 d with rfl|d
  .exact h.apart e
  .exact(h.apart' k (by simpa using d)).1 e
 refine⟨_,us++[v],⟨A,y.kept q fun p c=> ?_, ?_,h.apart,fun p c=> ?_,fun k e=>Q6 (h.lt k e) j.size⟩,j,fun p c=> ?_⟩
 .simp[Vl.ownBlock]at c;subst c;simpa using r
 .exact Ak.snoc (Af.kept d (fun _ h=>h) t v D) (Ak.kept d (fun _ h=>h) m us u)
 .simp[Vl.ownBlock]at c;subst c;exact⟨C,r⟩
 .simp[Vl.ownBlock]at c;subst c;exact a
theorem EO(F:Nat->Prop)(T:Ti)(t:Tr)(v:Vl)(b:Nat)(sv:Vl)(l:List Tr)(vs:List Vl)(w:Wl)(i:C3 w F T b sv l vs)(n:Af w F t v)(q:(Ag t).within=true)(C:l.length<=2147483648):
  Cl prog 108 #[nP (nM ⟨b,0,nN⟩),v] w fun e w'=>e= nR (nT #[])/\FZ F T b sv (l++[t]) w w':=by
 obtain⟨r,x,rfl⟩:=n.iface;obtain⟨f,args,p,B⟩:=Gr t _ n;have J:vs.length<=2147483648:=by rw[i.items.length];exact C
 have u:=hZ p;have z:=hZ q;have y:=hZ n;have a:=hZ i;have I:=i.blk.lt;clear p q n i;go_enter func108,ntmps108
 go_wp2_with(first
  |(refine Am rfl _ _ _ rfl _ rfl f args u.o _ B ?_;rintro e M ⟨rfl,k⟩;refine⟨_,rfl, ?_⟩;unfold SC)
  |(go_at_call 153;refine(FS _ _ _ _).mono ?_;rintro e w2 ⟨rfl,m⟩;rw[show Sz.within ⟨(Ag t).nodes,(Ag t).bytes,(Ag t).depth⟩=true from z.o];have d:=hZ (a.o.blk.kept (k.trans m));have D:w2.cell? ⟨b,0,nN⟩=nM sv:=d.o.cell 0;have G:∀j,w2.frozen? ⟨b,j,nN⟩=false:=fun j=>d.o.frozen j;have K:=d.o.lt)
  |(at_builtin;refine AM rfl _ _ _ rfl 62 .nilIface 16 underlying127 Ge rfl sv vs rfl (((a.o.lst.kept (k.trans m)).kept ((Chg.refl w2 []).alloc _))) w2.heap.size (nF r x) rfl Zh rfl Zj Zj ?_;intro g E s A o c;have h:=hZ ((d.o.alloc (nC #[nF r x] 62)).kept o a.o.notOwn);have c3:s.cell? ⟨b,0,nN⟩=nM sv:=h.o.cell 0;have H:∀j,s.frozen? ⟨b,j,nN⟩=false:=fun j=>h.o.frozen j;have L:=h.o.lt))
 go_end0
 refine⟨rfl,a.o.push a.o.items y.o ((k.trans m).alloc _) A o ?_ (h.o.set 0 _) ((Chg.refl _ _).setCell _ _ Zh)⟩
 rcases c with c|c
 .exact .inl c
 .have:=(k.trans m).size;simp at c;exact .inr Zj
theorem AK.tailAt{w:Wl}{a:Option Addr}{b:Nat}{e:Ti}{vs:List Vl}(h:AK w (nS a vs.length b) e vs)(k c:Nat)(g:k<=vs.length)(f:b=k):Ax w (fun _=>True) (nS a (vs.length-k) c) (vs.drop k):=by
 have:=h.capLe;have d:vs.length-k=0:=Zj
 exact .inl ⟨List.drop_of_length_le Zj,a,c,by rw[d]⟩
theorem AK.tail{w:Wl}{a:Option Addr}{j:Nat}{e:Ti}{vs:List Vl}(h:AK w (nS a vs.length j) e vs)(k c:Nat)(m:k<=vs.length):Ax w (fun _=>True) (nS (Option.map (fun x=>x.add k) a) (vs.length-k) c) (vs.drop k):=by
 by_cases d:k=vs.length
 .subst d
  exact .inl ⟨Zh,Option.map (fun x=>x.add vs.length) a,c,Zh⟩
 .obtain⟨n,o,b,l⟩:=h.form
  obtain⟨g,rfl⟩:=l (by rintro rfl;simp at m d;omega)
  injection b with b;subst b
  refine .inr ⟨g,k,c, ?_,trivial,fun i v f=> ?_⟩
  .simp[FB]
  .rw[List.getElem?_drop]at f
   exact h.cell rfl _ v f
theorem JS(F:Nat->Prop)(T:Ti)(b:Nat)(sv:Vl)(l:List Tr)(vs:List Vl)(w:Wl)(c:C3 w F T b sv l vs)(n:Int)(g:(l.length:Int)<n):
  Cl prog 112 #[nP (nM ⟨b,0,nN⟩),nI nX n] w fun e w'=>e= .panicked [{v:= nF 50 (nI nX 102),recovered:=false}]/\Chg w w' []:=by
 obtain⟨a,d,rfl,f⟩:=c.lst.form;rw[<-c.items.length]at g;have h:w.cell? ⟨b,0,nN⟩=nM (nS a vs.length d):=c.blk.cell 0;clear c f;go_enter func112,ntmps112
 go_wp2
 exact⟨rfl,rfl,Chg.refl _ _⟩
theorem GS(F:Nat->Prop)(T:Ti)(b:Nat)(sv:Vl)(l:List Tr)(vs:List Vl)(w:Wl)(c:C3 w F T b sv l vs)(n:Nat)(m:n<=l.length)(k:l.length<=2147483648):
  Cl prog 112 #[nP (nM ⟨b,0,nN⟩),nI nX n] w (Dm w 62 (vs.drop (vs.length-n))):=by
 obtain⟨a,i,rfl,s⟩:=c.lst.form;rw[<-c.items.length]at m k;have q:=hZ c;have r:w.cell? ⟨b,0,nN⟩=nM (nS a vs.length i):=c.blk.cell 0;have t:=c.lst.capLe.2;have h:=hZ c.lst;have f:Hid (∀u∈vs.drop (vs.length-n),u.oneCell'=true):=fun u o=>(c.items.oneCells u (List.mem_of_mem_drop o))
 have g:Hid ((vs.drop (vs.length-n)).length<=4294967296):=by unfold Hid;rw[Qm];omega
 clear c;go_enter func112,ntmps112
 by_cases j:i=vs.length-n
 .go_wp2_with(first|(go_at_call 155;refine(LW (fun _=>True) _ _ _ (h.o.tailAt (vs.length-n) _ Zj j) f.o g.o).mono ?_;rintro e p ⟨v,rfl,d⟩))
  go_ret
  exact⟨v,rfl,d⟩
 .go_wp2_with(first|(go_at_call 155;refine(LW (fun _=>True) _ _ _ (h.o.tail (vs.length-n) _ Zj) f.o g.o).mono ?_;rintro e p ⟨v,rfl,d⟩))
  go_ret
  exact⟨v,rfl,d⟩
theorem Ie(F:Nat->Prop)(sl:Vl)(l:List Tr)(vs:List Vl)(n:Nat)(w:Wl)(hs:Ax w F sl vs)(hi:Ak w F l vs)(S:∀k,F k->k<w.heap.size)(W:EJ l)(hl:l.length<=65536)(hk:n<=1099511627776):
  Cl prog 114 #[sl,nI nX n] w fun e w'=>e= nR (SC ((Bk l).over n))/\Chg w w' []:=by
 obtain⟨a,c,rfl,U⟩:=hs.cell;have ab:=hi.length;have HC:=hZ U;have HI:=hZ hi;have HF:=hZ S;have H:=hZ W;have K:=hZ ab;have an:vs.length<=65536:=Zj
 clear U hi S W hs ab;go_enter func114,ntmps114
 go_wp2_with fail
 go_loopw [13] (fun i wr=>∃k:Nat,k<=vs.length/\i= nI nX k/\Chg w wr []/\Ac wr (w.heap.size+1) [nI nX (1+(Bk (l.take k)).nodes),nI nX (n+(Bk (l.take k)).bytes),nI nX ((Bk (l.take k)).depth)] 224/\
   Ac wr w.heap.size [nI nX 0,nI nX 0,nI nX 0] 224)
  (fun i _=>vs.length-(intOf i).toNat)
 case atStart=>
  refine⟨0,Zj,rfl,by exact ot, ?_, ?_⟩
  .have:=Ac.new (w.alloc (nC #[nI nX 0,nI nX 0,nI nX 0] 224)) [nI nX 1,nI nX n,nI nX 0] 224
   simpa[Bk]using this
  .exact(Ac.new w [nI nX 0,nI nX 0,nI nX 0] 224).alloc _
 case round=>
  obtain⟨k,am,rfl,X,g,R⟩:=hrel;have p:=(H.o.take k).sum;have b1:(l.take k).length<=65536:=by rw[Ql];omega
  obtain⟨N,A⟩:=Ue ((Bk (l.take k)).nodes)
  obtain⟨M,z⟩:=Ue ((Bk (l.take k)).bytes)
  obtain⟨D,y⟩:=Ue ((Bk (l.take k)).depth)
  rw[<-A,<-z,<-y]at g p;have J:=hZ A;have I:=hZ z;have G:=hZ y;clear A z y;have n1:N<=4294967296:=by have:=p.1;omega
  have n2:M<=137438953472:=by have:=p.2.1;omega
  have n3:D<=512:=p.2.2;clear p;have lb:=g.lt;have L:wr.cell? ⟨w.heap.size+1,0,nN⟩=_:=g.cell 0;have c1:wr.cell? ⟨w.heap.size+1,1,nN⟩=_:=g.cell 1;have O:wr.cell? ⟨w.heap.size+1,2,nN⟩=_:=g.cell 2;have cf:∀j,wr.frozen? ⟨w.heap.size+1,j,nN⟩=false:=fun j=>g.frozen j
  simp only[Qa,Qb]at L c1 O;have t:=hZ X;have HB:=hZ g;have h:=hZ R;clear X g R;by_cases ai:k<vs.length
  .have s:k<l.length:=by rw[<-K.o];exact ai
   obtain⟨v,E,Y⟩:=HI.o.get k l[k] (Q9 s);obtain⟨b,o,ah,ak,V⟩:=HC.o k v E;subst ah;have al:wr.cell? ⟨b,o+k,nN⟩=nM v:=t.o.keeps V;have C:Af wr F l[k] v:=Af.kept (t.o.keepsF HF.o) (fun _ h=>h) _ _ Y;obtain⟨ti,x,rfl⟩:=C.iface;obtain⟨f,args,Z,T⟩:=Gr _ _ C;have af:=hZ Z;have HV:=hZ E;have d:=(Ar (H.o l[k] (List.getElem_mem s)));obtain⟨S,B⟩:=Ue (Ag l[k])
   rw[<-B]at d T;obtain⟨s1,s2,s3⟩:=S;simp only at d;obtain⟨d,ap,w3⟩:=d
   have aa:Bk (l.take (k+1))=⟨N+s1,M+s2,max D s3⟩:=by
    rw[BM (Q9 s),<-B];unfold Sz.add;rw[<-J.o,<-I.o,<-G.o]
   have ag:=hZ aa;clear aa;clear Z E Y C B V
   go_wp2_with(first
    |(refine Am rfl _ _ _ rfl _ rfl f args af.o _ T ?_;rintro e d ⟨rfl,u⟩;refine⟨_,rfl, ?_⟩;unfold SC;have ae:=hZ u;have m:=hZ (HB.o.kept u);have ad:=hZ (h.o.kept u);have ao:=m.o.lt;have d0:d.cell? ⟨w.heap.size+1,0,nN⟩=_:=m.o.cell 0;have d1:d.cell? ⟨w.heap.size+1,1,nN⟩=_:=m.o.cell 1;have d2:d.cell? ⟨w.heap.size+1,2,nN⟩=_:=m.o.cell 2;have df:∀j,d.frozen? ⟨w.heap.size+1,j,nN⟩=false:=(fun j=>m.o.frozen j);simp only[Qa,Qb]at d0 d1 d2;clear u))
   go_roundw
   case rel=>
    have G2:=t.o.trans ae.o;refine⟨k+1,Zj,by go_num,by(have:=G2;exact oq), ?_,by(apply Ac.eq;(·(repeat(first|exact ad.o|with_reducible apply Ac.drewN|with_reducible apply Ac.drew|with_reducible apply Ac.alloc|with_reducible apply Ac.set|(with_reducible apply Ac.set_other;rotate_left;(.first|(simp;done)|(simp;omega))))));rfl)⟩;apply Ac.eq
    ·(repeat(first|exact m.o|with_reducible apply Ac.drewN|with_reducible apply Ac.drew|with_reducible apply Ac.alloc|with_reducible apply Ac.set|(with_reducible apply Ac.set_other;rotate_left;(.first|(simp;done)|(simp;omega)))))
    .go_light
     rw[ag.o];simp;refine⟨Zj,Zj, ?_⟩;split<;>omega
   case measure=>simp[intOf];omega
  .have P:wr.cell? ⟨w.heap.size,0,nN⟩=_:=h.o.cell 0
   have q:wr.cell? ⟨w.heap.size,1,nN⟩=_:=h.o.cell 1;have r:wr.cell? ⟨w.heap.size,2,nN⟩=_:=h.o.cell 2;have ef:∀j,wr.frozen? ⟨w.heap.size,j,nN⟩=false:=fun j=>h.o.frozen j
   have aj:=h.o.lt;simp only[Qa,Qb]at P q r;go_wp2
   refine bodyPost_ret (v:= nA #[nI nX (1+N),nI nX (n+M),nI nX (D+1)]) (by simp[results,results114,go_sem,aj,P,q,r,L,c1,O]) rfl ⟨?_, ?_⟩
   .go_light
    have s:l.take k=l:=Qn (by rw[<-K.o];omega);have q:=J.o;have r:=I.o;have Q:=G.o;rw[s]at q r Q;subst q;subst r;subst Q;unfold SC Sz.over;simp
   ·(have:=t.o;exact oq)
theorem IZ(F:Nat->Prop)(t:Tr)(v:Vl)(b:Nat)(n:Int)(w:Wl)(a:Af w F t v)(d:(Ag t).within=false):
  Cl prog 113 #[nP (nM ⟨b,0,nN⟩),nI nX n,v] w fun e w'=>e= .panicked [{v:= nF 50 (nI nX 3),recovered:=false}]/\Chg w w' []:=by
 obtain⟨l,x,rfl⟩:=a.iface;obtain⟨f,args,c,i⟩:=Gr t _ a;have g:=hZ c;have h:=hZ d;clear c d a;go_enter func113,ntmps113
 go_wp2_with(first
  |(refine Am rfl _ _ _ rfl _ rfl f args g.o _ i ?_;rintro e m ⟨rfl,j⟩;refine⟨_,rfl, ?_⟩;unfold SC)
  |(go_at_call 153;refine(FS _ _ _ _).mono ?_;rintro e w2 ⟨rfl,k⟩;rw[show Sz.within ⟨(Ag t).nodes,(Ag t).bytes,(Ag t).depth⟩=false from h.o])
  |(go_at_call 106;refine(CD _ _).mono ?_;rintro e o ⟨rfl,rfl⟩))
 exact⟨rfl,rfl,j.trans k⟩
theorem I0(F:Nat->Prop)(T:Ti)(t:Tr)(v:Vl)(b:Nat)(sv:Vl)(l:List Tr)(vs:List Vl)(n:Nat)(w:Wl)(d:C3 w F T b sv l vs)(r:Af w F t v)(D:(Ag t).within=true)(P:n<=l.length)(O:l.length<=2147483648):
  Cl prog 113 #[nP (nM ⟨b,0,nN⟩),nI nX n,v] w fun e w'=>e= nR (nT #[])/\FZ F T b sv (l.take (l.length-n)++[t]) w w':=by
 obtain⟨s,x,rfl⟩:=r.iface;obtain⟨f,args,B,N⟩:=Gr t _ r;obtain⟨a,c,rfl,M⟩:=d.lst.form;have y:=d.items.length;have Z:=d.lst.capLe.2;rw[<-y]at P O;have J:=hZ y;have H:=hZ (d.lst.pop (vs.length-n) Zj);have u:Hid ((vs.take (vs.length-n)).length=vs.length-n):=by unfold Hid;rw[Ql];omega
 have G:=hZ B;have K:=hZ D;have I:=hZ r;have o:=hZ d;have Y:=d.blk.lt;clear B D r d y M;go_enter func113,ntmps113
 go_wp2_with(first
  |(refine Am rfl _ _ _ rfl _ rfl f args G.o _ N ?_;rintro e w1 ⟨rfl,p⟩;refine⟨_,rfl, ?_⟩;unfold SC)
  |(go_at_call 153;refine(FS _ _ _ _).mono ?_;rintro e w2 ⟨rfl,q⟩;rw[show Sz.within ⟨(Ag t).nodes,(Ag t).bytes,(Ag t).depth⟩=true from K.o])
  |(go_at_call 106;refine(Au _ _).mono ?_;rintro e z ⟨rfl,rfl⟩))
 have i:=hZ (o.o.blk.kept (p.trans q));have U:w2.cell? ⟨b,0,nN⟩=nM (nS a vs.length c):=i.o.cell 0;have W:∀j,w2.frozen? ⟨b,j,nN⟩=false:=fun j=>i.o.frozen j
 have lb:=i.o.lt;have E:=hZ (((H.o.kept (p.trans q)).kept ((Chg.refl w2 []).alloc (nC #[nF s x] 62))));have z1:IntKind.i64.wrap ((vs.length:Int)-n)=(vs.length:Int)-n:=IntWalk.i64_in _ Zj;have z2:(0:Int)<=(vs.length:Int)-n:=Zj
 have z3:(vs.length:Int)-n<=(c:Int):=Zj
 have z4:((vs.length:Int)-n).toNat=vs.length-n:=Zj
 have R:(vs.length-n+1)*16<=140737488355328:=Zj
 have S:vs.length-n<=140737488355328:=Zj
 have Q:b∉(Vl.slice a (vs.length-n) c).ownBlock.toList:=by have:=o.o.notOwn;cases a<;>simpa[Vl.ownBlock]using this
 go_region_law(first|(refine Df rfl _ _ _ rfl 62 .nilIface 16 underlying127 Ge rfl (nS a (vs.length-n) c) (vs.take (vs.length-n)) ZN (by exact E.o) w2.heap.size (nF s x) ZN Zh rfl (by rw[u.o];exact R) (by rw[u.o];exact S) ?_;rw[u.o];intro g V z L A h;have k:=hZ ((i.o.alloc (nC #[nF s x] 62)).drew.kept A Q);have c3:z.cell? ⟨b,0,nN⟩=nM (nS a vs.length c):=k.o.cell 0;have X:∀j,z.frozen? ⟨b,j,nN⟩=false:=(fun j=>k.o.frozen j);have aa:=k.o.lt))
 all_goals go_end0
 all_goals
  have C:(Vl.slice a vs.length c).ownBlock=(Vl.slice a (vs.length-n) c).ownBlock:=by cases a<;>rfl
  refine⟨rfl,o.o.push (m:=l.take (l.length-n)) (us:=vs.take (vs.length-n)) ?_ I.o (((p.trans q).alloc (nC #[nF s x] 62)).drew) L (by rw[C];exact A) ?_ (k.o.set 0 _) ((Chg.refl _ _).setCell _ _ Zh)⟩
  .rw[<-J.o];exact o.o.items.take _
  .rw[C]
   rcases h with h|h
   .exact .inl h
   .have:=(p.trans q).size;simp at h;exact .inr Zj
end
section
open Go Go.RowKit
theorem Bx{w:Wl}{B:Nat}(a:w.heap.size=B)(v:Vl)(T:Ti):(w.alloc (nC #[v] T)).cell? ⟨B,0,nN⟩=nM v:=by
 subst a;rw[World.cell?_alloc_mark];rfl
theorem AK.norm{w:Wl}{a:Option Addr}{n c b:Nat}{e:Ti}{xs d:List Vl}(h:AK w (nS a n b) e xs)(f:n=c)(g:xs=d):AK w (nS a c b) e d:=by
 subst f;subst g;exact h
theorem Chg.own{w W a:Wl}{v sv:Vl}{bs:List Nat}(h:Chg w W bs)(k:Chg W a v.ownBlock.toList)(c:∀g,sv.ownBlock=nM g->g∈bs)(b:∀g,v.ownBlock=nM g->sv.ownBlock=nM g\/w.heap.size<=g):Chg w a bs:=
 h.step k fun i hi d=>by
  rcases b i (by simpa using hi)with h|h
  .exact c i h
  .omega
theorem LF{P:Program}{h:Array Oper}{rest:List Oper}{o:Oper}{a:Act}{Q:Exit->Act->Wl->Prop}{w:Wl}(y:o.guard=nN)(l c:Operand)(t:Ti)(F:o.op=Op.makeSlice t l c)(e:Ti)(z:Vl)(d:Nat)(I:P.underlying t=nM (.slice e))(A:(P.info? e).map (fun i=>(i.zero,i.size,i.bytes))=nM (nM z,1,d))(g f:IntKind)(C:Int)(n:Nat)(E:a.eval l= nI g 0)(x:a.eval c= nI f C)(r:C=(n:Int))(j:d*n<=281474976710656)(m:n<=maxLen)(B:Nat)(q:w.heap.size=B)(s:∀w',AK w' (nS (nM ⟨B,0,nN⟩) 0 n) e []->Chg w w' []->wpList P h Q rest (a.put o.dst (nS (nM ⟨B,0,nN⟩) 0 n)) w'):
  wpList P h Q (o::rest) a w:=by
 obtain⟨i,hi,J,H,v⟩:=info_parts A;subst r;subst v;subst q;obtain⟨w',G,p,b⟩:=run_make_own (P:=P) w 0 t e i z 1 I hi J H g f n j m (Nat.zero_le _);refine wpList_plain y fun K u=> ?_
 unfold Oper.wp;simp only[execOp,F,E,x,G,Sem.run_bind,Result.andThen_ok,Sem.run_pure];exact u _ _ (s w' p ⟨b.os,b.tape,b.output,b.size,fun k D _=>b.block k D Zh⟩)
theorem AK.convert{P:Program}{w:Wl}{g n a:Nat}{e:Ti}{xs:List Int}(h:AK w (nS (nM ⟨g,0,nN⟩) n a) e (xs.map (Vl.int .u8)))(c b:Ti)(k:P.underlying c=nM (.slice e))(j:P.underlying e=nM (.int .u8))(f:P.underlying b=nM .string):
  (Go.convert c b (nS (nM ⟨g,0,nN⟩) n a)).run P w= .ok (nG (strOfNums xs)) w:=by
 have d:=h.capLe.1;rw[List.length_map]at d;subst d;refine run_convert_bytes_arg w c e k j g 0 xs.length a xs rfl (fun i hi=> ?_) b f;rw[Nat.zero_add];refine h.cell rfl i _ ?_;simp[hi]
def As(w:Wl)(d:Vl)(sz n:Nat)(xs:List Vl):Prop:=
 ∃a c,d= nS a n c/\n<=c/\xs.length=n*sz/\∀i v,xs[i]? =nM v->∃b o,a=nM ⟨b,o,nN⟩/\w.cell? ⟨b,o+i,nN⟩=nM v
theorem As.kept{w w':Wl}{d:Vl}{sz n:Nat}{xs:List Vl}(h:As w d sz n xs)(m:Chg w w' []):As w' d sz n xs:=by
 obtain⟨a,c,g,j,k,l⟩:=h;exact⟨a,c,g,j,k,fun i v p=>by obtain⟨b,o,e,f⟩:=l i v p;exact⟨b,o,e,m.keeps f⟩⟩
theorem As.form{w:Wl}{b:Vl}{sz n:Nat}{xs:List Vl}(h:As w b sz n xs):∃a c,b= nS a n c/\n<=c/\xs.length=n*sz:=by
 obtain⟨a,c,d,e,f,_⟩:=h;exact⟨a,c,d,e,f⟩
theorem As.get{w:Wl}{a:Option Addr}{sz n m c:Nat}{xs:List Vl}(h:As w (nS a m c) sz n xs){i:Nat}{v:Vl}(g:xs[i]? =nM v):∃b o,a=nM ⟨b,o,nN⟩/\w.cell? ⟨b,o+i,nN⟩=nM v:=by
 obtain⟨j,k,e,_,_,f⟩:=h
 injection e with d _ _
 subst d;exact f i v g
theorem As.base{w:Wl}{a:Option Addr}{sz n m c:Nat}{xs:List Vl}(h:As w (nS a m c) sz n xs)(q:0<n)(r:0<sz):∃b o,a=nM ⟨b,o,nN⟩/\∀i v,xs[i]? =nM v->w.cell? ⟨b,o+i,nN⟩=nM v:=by
 obtain⟨t,x,k,_,l,g⟩:=h
 injection k with f _ _
 subst f;have:0<xs.length:=by rw[l];exact Nat.mul_pos q r
 obtain⟨b,o,e,_⟩:=g 0 xs[0] (Q9 this);refine⟨b,o,e,fun i v s=> ?_⟩;obtain⟨u,y,d,p⟩:=g i v s;rw[e]at d
 injection d with d
 injection d with f j
 subst f;subst j;exact p
theorem As.tail{w:Wl}{a:Option Addr}{sz n c:Nat}{xs:List Vl}(h:As w (nS a n c) sz n xs)(k m d:Nat)(s:n=m+k)(q:m<=d):As w (nS (Option.map (fun x=>x.add (k*sz)) a) m d) sz m (xs.drop (k*sz)):=by
 obtain⟨t,u,j,y,l,p⟩:=h
 injection j with g _ _
 subst g;refine⟨_,_,rfl,q,by rw[Qm,l,s,Nat.add_mul];omega,fun i v f=> ?_⟩;rw[List.getElem?_drop]at f;obtain⟨b,o,e,r⟩:=p _ v f;subst e;refine⟨b,o+k*sz, ?_,by rw[Nat.add_assoc];exact r⟩;simp[FB]
theorem As.tail1{w:Wl}{b o:Nat}{n c:Nat}{x:Vl}{xs:List Vl}(h:As w (nS (nM ⟨b,o,nN⟩) (n+1) c) 1 (n+1) (x::xs))(a:Nat)(d:n<=a):As w (nS (nM ⟨b,o+1,nN⟩) n a) 1 n xs:=by
 have:=h.tail 1 n a rfl d;simpa[FB]using this
theorem As.next{w:Wl}{b o:Nat}{m M c:Nat}{x:Vl}{xs:List Vl}(h:As w (nS (nM ⟨b,o,nN⟩) m c) 1 m (x::xs))(a:Nat)(e:M=xs.length)(f:M<=a):As w (nS (nM ⟨b,o+1,nN⟩) M a) 1 xs.length xs:=by
 subst e;have g:m=xs.length+1:=by obtain⟨_,_,_,_,d,_⟩:=h;simp at d;omega
 subst g;exact h.tail1 a f
theorem ED{w:Wl}{a:Option Addr}{M c:Nat}{xs:List Vl}(e:xs.length=0)(b:M=xs.length):As w (nS a M c) 1 xs.length xs:=by
 have:xs=[]:=List.eq_nil_of_length_eq_zero e;subst this;subst b;exact⟨_,_,rfl,Nat.zero_le _,Zh,fun i v d=>by simp at d⟩
theorem As.nextZ{w:Wl}{b o sz:Nat}{m M n c:Nat}{us xs:List Vl}(h:As w (nS (nM ⟨b,o,nN⟩) m c) sz m (us++xs))(a:Nat)(i:us.length=sz)(e:m=M+1)(g:M=n)(f:M<=a):As w (nS (nM ⟨b,o+sz,nN⟩) M a) sz n xs:=by
 subst g;have d:=h.tail 1 M a e f;rw[Nat.one_mul,List.drop_append,List.drop_of_length_le Zj,i,Nat.sub_self,List.drop_zero,List.nil_append]at d;simpa[FB]using d
theorem Ei{w:Wl}{a:Option Addr}{sz M n c:Nat}{xs:List Vl}(b:M=0)(d:n=0)(f:xs.length=0):As w (nS a M c) sz n xs:=by
 subst b;subst d;have:xs=[]:=List.eq_nil_of_length_eq_zero f;subst this;exact⟨_,_,rfl,Nat.zero_le _,Zh,fun i v e=>by simp at e⟩
theorem As.head{w:Wl}{a:Option Addr}{sz n c:Nat}{xs:List Vl}(h:As w (nS a n c) sz n xs)(k:Nat)(l:k<=n):As w (nS a k c) sz k (xs.take (k*sz)):=by
 obtain⟨m,o,f,p,g,j⟩:=h
 injection f with d _ e
 subst d;subst e;refine⟨_,_,rfl,Zj,by rw[Ql,g];exact Nat.min_eq_left (Nat.mul_le_mul_right _ l),fun i v b=> ?_⟩
 have hi:i<k*sz:=by
  have:=(Qc.1 b).1;rw[Ql]at this;omega
 rw[List.getElem?_take_of_lt hi]at b;exact j i v b
theorem AK.rowC{w:Wl}{sv:Vl}{e:Ti}{xs:List Vl}(h:AK w sv e xs):As w sv 1 xs.length xs:=by
 obtain⟨a,c,rfl,j⟩:=h.form;have f:=h.capLe;refine⟨a,c,rfl,f.2,Zh,fun i v b=> ?_⟩;obtain⟨g,rfl⟩:=j (by intro d;subst d;simp at b);exact⟨g,0,rfl,by rw[Nat.zero_add];exact h.cell rfl i v b⟩
def LD:Vl->Nat
 | nS _ n _=>n
 |_=>0
end
section
open _root_.Go.Proofs.Tryz
open Go Go.RowKit
theorem WF:(prog.info? 21).map (fun i=>(i.zero,i.size,i.bytes))=nM (nM (nI .i32 0),1,4):=Yb
theorem WG:(prog.info? 3).map (fun i=>(i.zero,i.size,i.bytes))=nM (nM (nI nX 0),1,8):=Yb
theorem QQ:(prog.info? 325).map (fun i=>(i.zero,i.size,i.bytes))=nM (nM (nI .u16 0),1,2):=Yb
def L3(l:List Int):List Vl:=l.map (Vl.int .i32)
theorem MS{s:BY}:∀(f p:Nat) (l:List Int),Utf.Ch s f p=nM l->l.length<=s.size-p
 |0,p,l,h=>by
  simp only[Utf.Ch]at h;split at h
  .injection h with h;subst h;simp
  .cases h
 |f+1,p,l,h=>by
  simp only[Utf.Ch]at h;split at h
  .injection h with h;subst h;simp
  .rename_i d
   split at h
   .rename_i b
    obtain⟨c,a,rfl⟩:=Option.map_eq_some_iff.1 h;have:=MS f _ c a;have e:=((Utf.El Zj).1 b).1;simp only[Qj];omega
   .cases h
theorem XC(s:BY)(L:List Int)(w:Wl)(hs:s.size<=2147483648)(Y:Utf.Sb s=nM L):
  Cl prog 243 #[nG s] w fun e w'=>(∃v u,e= nR (nT #[v,u])/\AK w' v 21 (L3 L)/\∀g,v.ownBlock=nM g->w.heap.size<=g)/\Chg w w' []:=by
 have HL:=hZ Y;clear Y;go_enter func243,ntmps243
 go_wp2
 go_loopw [4,5,6] (fun H I J wr=>∃(p k:Nat) (b rest:List Int) (ys:List Vl),p<=s.size/\s.size<=p+k/\J= nI nX p/\Utf.Ch s k p=nM rest/\L=b++rest/\b.length<=p/\ys.length<=p/\AK wr H 21 (L3 b)/\AK wr I 3 ys/\Chg w wr []/\
   (∀g,H.ownBlock=nM g->w.heap.size<=g)/\(∀g,I.ownBlock=nM g->w.heap.size<=g)/\(∀g,H.ownBlock=nM g->I.ownBlock=nM g->False)) (fun _ _ J _=>s.size-(intOf J).toNat)
 case atStart=>exact⟨0,s.size,[],L,[],Zj,Zj,rfl,HL.o,rfl,Zh,Zh,AK.nil _ _,AK.nil _ _,Chg.refl _ _,fun g a=>(by cases a),fun g a=>(by cases a),fun g a=>(by cases a)⟩
 case round=>
  obtain⟨K,rfl⟩:=Ue wr
  obtain⟨p,k,b,rest,ys,hp,hk,rfl,hr,af,ax,az,aa,ab,a,ah,ai,hd⟩:=hrel;have l:=hZ hr;have S:=hZ af;have R:=hZ aa;have z:=hZ ab;have x:=hZ a;have C:=hZ ah;have T:=hZ ai;have t:=hZ hd;clear hr af aa ab a ah ai hd;by_cases ag:p<s.size
  .obtain⟨o,rfl⟩:∃o,k=o+1:=⟨k-1,Zj⟩
   have f:Utf.NE s p=true:=by
    have:=l.o;simp only[Utf.Ch]at this;rw[Qs Zj]at this
    cases h:Utf.NE s p with
    |true=>rfl
    |false=>rw[h]at this;simp at this
   obtain⟨q,G,i⟩:∃q,Utf.Ch s o (p+Utf.AJ s p)=nM q/\rest=Utf.GY s p::q:=by
    have:=l.o;simp only[Utf.Ch]at this;rw[Qs Zj,f,Qr rfl]at this;obtain⟨l',m,n⟩:=Option.map_eq_some_iff.1 this;exact⟨l',m,n.symm⟩
   have aq:1<=Utf.AJ s p/\Utf.AJ s p<=4:=by
    have m:=((Utf.El ag).1 f).1;have n:=Utf.Io (Utf.Aj s p);unfold Utf.AJ at*;omega
   have ap:p+Utf.AJ s p<=s.size:=by unfold Utf.NE at f;simp at f;omega
   have B:=hZ (RS s p K hs ag f);obtain⟨wi,ak⟩:=Ue (Utf.AJ s p)
   obtain⟨j,aj⟩:=Ue (Utf.GY s p)
   rw[<-ak]at aq ap G B;rw[<-aj]at i B;clear ak aj;have an:=hZ G;have ao:=hZ i;have A:Hid ((L3 b).length=b.length):=by unfold Hid L3;simp
   clear f G i l;have ay:wi<=s.size:=Zj
   go_wp2_with(first
    |(go_at_call 206;refine B.o.mono ?_;rintro e w' ⟨rfl,rfl⟩)
    |(at_builtin;refine AM rfl _ _ _ rfl 21 (nI .i32 0) 4 underlying351 WF rfl u4 (L3 b) ZN (by exact R.o.kept (bs:=[]) (by exact cg cR) Zh) K.heap.size (nI .i32 j) ZN (by exact Bx Zh _ _) rfl (by rw[A.o];omega) (by rw[A.o];omega) ?_;rw[A.o];intro g ar r Z E W;obtain⟨nb,aw⟩:=Ue r.heap.size;have Q:=hZ Z;have N:=hZ E;have y:=hZ W;have al:=hZ ((z.o.kept ((Chg.refl K []).alloc (nC #[nI .i32 j] 21))).kept E (fun g a F=>t.o g (by simpa using F) a));clear Z E W)
    |(at_builtin;refine AM rfl _ _ _ rfl 3 (nI nX 0) 8 underlying352 WG rfl u5 ys ZN (by exact al.o.kept (bs:=[]) (by exact cg cR) Zh) r.heap.size (nI nX p) ZN (by exact Bx Zh _ _) rfl Zj Zj ?_;intro g5 au w5 ad V X;have am:=hZ ad;have O:=hZ V;have P:=hZ X;clear ad V X))
   go_roundw
   case rel=>
    have M:Chg w r []:=Chg.own (sv:= nS nN 0 0) (by exact cg x.o) N.o (fun g a=>by cases a) (fun g a=> .inr (C.o g a));have G2:Chg w w5 []:=Chg.own (sv:= nS nN 0 0) (by exact cg M) O.o (fun g a=>by cases a) (fun g a=> .inr (T.o g a));have z1:=x.o.size;have z2:=M.size;have z3:=N.o.size;simp only[World.size_alloc]at z3
    have av:g≠g5:=by
     intro he
     rcases P.o with h|h
     .have l5:=z.o.lt h
      rcases y.o with d|d
      .exact t.o _ d (he▸h)
      .simp at d;omega
     .have l3:=Q.o.lt (g:=g) rfl
      simp at h;omega
    refine⟨p+wi,o,b++[j],q,ys++[nI nX p],Zj,Zj,by go_num,an.o,by rw[S.o,ao.o];simp,by simp;omega,by simp;omega, ?_,by simpa using am.o,G2, ?_, ?_, ?_⟩
    .have h:=(Q.o.kept ((Chg.refl r []).alloc (nC #[nI nX p] 3))).kept O.o (fun D c F=>by
      simp[Vl.ownBlock]at c;subst c;have U:u5.ownBlock=nM g:=by simpa using F
      rcases y.o with d|d
      .exact t.o _ d U
      .have l5:=z.o.lt U
       simp at d;omega)
     rw[show L3 (b++[j])=L3 b++[nI .i32 j]from by simp[L3]];exact h
    .intro D c
     simp[Vl.ownBlock]at c;subst c
     rcases y.o with h|h
     .exact C.o _ h
     .simp at h;omega
    .intro D c
     simp[Vl.ownBlock]at c;subst c
     rcases P.o with h|h
     .exact T.o _ h
     .simp at h;omega
    .intro D m n
     simp[Vl.ownBlock]at m n;omega
   case measure=>simp[intOf];omega
  .obtain rfl:p=s.size:=by omega
   have i:rest=[]:=by
    have:=l.o
    cases k with
    |zero=>simp[Utf.Ch]at this;exact this
    |succ k=>simp[Utf.Ch]at this;exact this
   subst i;have ae:=S.o;rw[List.append_nil]at ae;subst ae;go_wp2
   go_ret2
   exact⟨⟨_,_,rfl,R.o,C.o⟩,x.o⟩
end
section
open _root_.Go.Proofs.Tryz
open Go Go.RowKit Tree
def vC(d:Int)(flag:Bool)(a:Int)(text:BY)(b c:Vl):List Vl:=[nI nX d,.bool flag,nI .u64 a,nG text,b,c]
theorem Jy(d:Int)(flag:Bool)(a:Int)(text:BY)(b c:Vl):(vC d flag a text b c).toArray=#[nI nX d,.bool flag,nI .u64 a,nG text,b,c]:=rfl
theorem A9:(prog.info? 29).map (·.size)=nM 6:=Yb
def Tl(b:Nat):Nat:=if b=9223372036854775808 then 0 else b
theorem YM(b:Nat)(w:Wl):
  Cl prog 165 #[nI .u64 b] w fun e w'=>e= nR (nA (vC 3 false (Tl b) ⟨#[]⟩ (nS nN 0 0) (nS nN 0 0)).toArray)/\Chg w w' []:=by
 by_cases h:b=9223372036854775808
 .have a:Tl b=0:=by unfold Tl;rw[Qr h]
  rw[a];have d:((b:Int)==9223372036854775808)=true:=by simp;omega
  clear a h;go_enter func165,ntmps165
  go_wp2
  refine bodyPost_ret (Bi rfl _ _ w.heap.size 29 (vC 3 false 0 ⟨#[]⟩ (nS nN 0 0) (nS nN 0 0)) _ rfl (Ac.new w _ _) underlying29 rfl A9) rfl ⟨rfl,(Chg.refl w []).alloc _⟩
 .have a:Tl b=b:=by unfold Tl;rw[Qs h]
  rw[a];have d:((b:Int)==9223372036854775808)=false:=by simp;omega
  clear a h;go_enter func165,ntmps165
  go_wp2
  refine bodyPost_ret (Bi rfl _ _ w.heap.size 29 (vC 3 false b ⟨#[]⟩ (nS nN 0 0) (nS nN 0 0)) _ rfl (Ac.new w _ _) underlying29 rfl A9) rfl ⟨rfl,(Chg.refl w []).alloc _⟩
end
end Go.Proofs.YtkfnkppdhcaeoaaGreatDoor

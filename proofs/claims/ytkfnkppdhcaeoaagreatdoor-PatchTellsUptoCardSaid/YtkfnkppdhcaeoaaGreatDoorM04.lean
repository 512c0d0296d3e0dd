/- Part 4 of the proof of coreBase. -/
import Derived.Deep.AppendLies
import Derived.Deep.RegionHeld3
import Derived.Deep.RegionLaw
import Derived.Defers
import Derived.Recover
import Derived.Test.YtkfnkppdhcaeoaaGreatDoorM03
set_option maxRecDepth 100000
set_option maxHeartbeats 32000000
set_option linter.all false
namespace Go.Proofs.YtkfnkppdhcaeoaaGreatDoor
open Go renaming Calls->Cl,TypeId->Ti,Value->Vl,World->Wl
section
open _root_.Go.Proofs.Tryz
open Go Go.RowKit
theorem Th(n:Nat)(w:Wl):Cl prog 110 #[.float .f64 n] w fun e w'=>e= .returned (.bool (Ieee.double.order n n !=some .eq))/\w=w':=by
 go_enter func110,ntmps110
 go_wp2
 go_ret
 exact⟨rfl,rfl⟩
theorem GW(n:Int)(w:Wl):(callFunc 109 #[.int .u64 n]).run prog w= .ok (.value (.float .f64 n.toNat)) w:=Yb
theorem GX(n:Nat)(w:Wl):(callFunc 67 #[.float .f64 n]).run prog w= .ok (.value (.int .u64 n)) w:=Yb
theorem Wh(n:Nat)(a:n<18446744073709551616):(bits BinOp.andNot IntKind.u64 (n:Int) 9223372036854775808).toNat=n % 9223372036854775808:=by
 have:=u64_andNot_nat n 9223372036854775808 a ZM;rw[show((9223372036854775808:Nat):Int)=9223372036854775808 from rfl]at this;rw[this,Int.toNat_natCast,show 18446744073709551615-9223372036854775808=2^63-1 from by decide,Nat.and_two_pow_sub_one_eq_mod]
theorem WT(n:Nat)(a:n<18446744073709551616)(w:Wl):Cl prog 154 #[.float .f64 n] w fun e w'=>e= .returned (.float .f64 (n % 9223372036854775808))/\w=w':=by
 have b:=hZ (Wh n a);have c:=GX;have d:=GW;clear a;go_enter func154,ntmps154
 go_wp2
 go_ret
 exact⟨congrArg (fun k=>Ending.returned (.float .f64 k)) b.o,rfl⟩
theorem Tg(n:Nat)(a:n<18446744073709551616)(w:Wl):Cl prog 111 #[.float .f64 n,.int .i64 0] w fun e w'=>e= .returned (.bool (Ieee.double.order (n % 9223372036854775808) 9218868437227405311==some .gt))/\w=w':=by
 have b:=hZ a;clear a;go_enter func111,ntmps111
 go_wp2_with(first|(go_at_call 154;refine(WT _ b.o _).mono ?_;rintro e w' ⟨rfl,rfl⟩))
 go_ret
 exact⟨rfl,rfl⟩
theorem FO(n:Nat)(w:Wl):Cl prog 110 #[.float .f64 n] w fun e w'=>e= .returned (.bool (decide (9218868437227405312<Fl.A7 n)))/\w=w':=by
 rw[<-Fl.N9];exact Th n w
theorem bJ(n:Nat)(a:n<18446744073709551616)(w:Wl):Cl prog 111 #[.float .f64 n,.int .i64 0] w fun e w'=>e= .returned (.bool (decide (Fl.A7 n=9218868437227405312)))/\w=w':=by
 rw[<-Fl.N8];exact Tg n a w
def KN(n:Int):Vl:= .iface 174 (.agg #[.int .i64 n])
def By(n:Int):Ending:= .panicked [{v:=KN n,recovered:=false}]
theorem Bv(n:Int)(w:Wl):Cl prog 53 #[.bool true,.int .i64 n] w fun e w'=>e= .returned (.tuple #[])/\w=w':=by
 go_enter func53,ntmps53
 go_wp2
 go_end0
 exact⟨rfl,rfl⟩
theorem Bu(n:Int)(w:Wl):Cl prog 53 #[.bool false,.int .i64 n] w fun e w'=>e=By n/\Chg w w' []:=by
 go_enter func53,ntmps53
 go_wp2
 exact⟨rfl,rfl,Chg.refl _ _⟩
theorem Pj(n:Nat)(w:Wl):Cl prog 323 #[.float .f64 n] w fun e w'=>e= .returned (.int .u64 n)/\w=w':=by
 have a:=GX;go_enter func323,ntmps323
 go_wp2
 go_ret
 exact⟨rfl,rfl⟩
end
section
open Go Go.RowKit
def AK(w:Wl)(sv:Vl)(e:Ti)(xs:List Vl):Prop:=w.ownsRow 0 e 1 sv xs.length xs
theorem AK.nil(w:Wl)(e:Ti):AK w (.slice none 0 0) e []:=World.ownsRow_nil w 0 e 1
theorem AK.kept{w w':Wl}{sv:Vl}{e:Ti}{xs:List Vl}{bs:List Nat}(h:AK w sv e xs)(k:Chg w w' bs)(l:∀g,sv.ownBlock=some g->g∉bs:=by simp):AK w' sv e xs:=by
 obtain⟨i,a⟩:=h;refine⟨i, ?_⟩
 rcases a with a|⟨g,d,f,c,j,b,r⟩
 .exact .inl a
 .refine .inr ⟨g,d,f,c,j, ?_,r⟩
  rw[k.block g (Array.getElem?_eq_some_iff.1 b).1 (l g (by subst c;rfl))];exact b
theorem AK.form{w:Wl}{sv:Vl}{e:Ti}{xs:List Vl}(h:AK w sv e xs):∃a b,sv= .slice a xs.length b/\(xs≠[]->∃g,a=some ⟨g,0,none⟩):=by
 rcases h.2 with⟨d,c⟩|⟨g,b,j,f,_⟩
 .exact⟨none,0,by rw[d,c],fun i=>absurd (List.eq_nil_of_length_eq_zero c) i⟩
 .exact⟨_,b,f,fun _=>⟨g,rfl⟩⟩
theorem AK.cell{w:Wl}{sv:Vl}{e:Ti}{xs:List Vl}(h:AK w sv e xs){g:Nat}(a:sv.ownBlock=some g)(i:Nat)(v:Vl)(b:xs[i]? =some v):w.cell? ⟨g,i,none⟩=some v:=by
 have:=World.ownsRow.cells h a i v b;rwa[show(⟨g,0,none⟩:Addr).add i=⟨g,i,none⟩from by unfold Addr.add;split<;>simp_all]at this
theorem AK.lt{w:Wl}{sv:Vl}{e:Ti}{xs:List Vl}(h:AK w sv e xs){g:Nat}(a:sv.ownBlock=some g):g<w.heap.size:=(World.ownsRow.lt h g a).2
theorem AM{P:Program}{m:Array Oper}{rest:List Oper}{o:Oper}{a:Act}{Q:Exit->Act->Wl->Prop}{w:Wl}(A:o.guard=none)(s x:Operand)(t:Ti)(F:o.op= .call {callee:= .builtin .append,args:=#[s,x],argTypes:=#[t,t]})(e:Ti)(z:Vl)(f:Nat)(L:P.underlying t=some (.slice e))(C:(P.info? e).map (fun i=>(i.zero,i.size,i.bytes))=some (some z,1,f))(S:z.cells.size=1)(sv:Vl)(xs:List Vl)(I:a.eval s=sv)(G:AK w sv e xs)(B:Nat)(u:Vl)(O:a.eval x= .slice (some ⟨B,0,none⟩) 1 1)(M:w.cell? ⟨B,0,none⟩=some u)(N:u.oneCell'=true)(l:(xs.length+1)*f<=140737488355328)(U:xs.length<=140737488355328)(h:∀g d w',AK w' (.slice (some ⟨g,0,none⟩) (xs.length+1) d) e (xs++[u])->Chg w w' sv.ownBlock.toList->(sv.ownBlock=some g\/g=w.heap.size)->
   wpList P m Q rest (a.put o.dst (.slice (some ⟨g,0,none⟩) (xs.length+1) d)) w'):wpList P m Q (o::rest) a w:=by
 obtain⟨i,hi,R,J,r⟩:=info_parts C
 have E:∀j v,[u][j]? =some v->w.cell? ((⟨B,0,none⟩:Addr).add j)=some v:=by
  intro j v b
  match j,b with
  |0,b=>simp at b;subst b;exact M
  |j+1,b=>simp at b
 obtain⟨g,d,w',H,n,c,p,T⟩:=run_append_lies (P:=P) w t o.type 0 e i z 1 f L hi R J r S ZM sv xs.length xs G ⟨B,0,none⟩ 1 1 [u] rfl E (by simpa using N) ZM (by unfold maxLen;omega) l (Nat.zero_le _) _ rfl;refine wpList_plain A fun K q=> ?_
 unfold Oper.wp execOp;simp only[F,resolve,invoke,builtin,Sem.run_bind,Sem.run_pure,Result.andThen_ok,List.map_toArray,List.map_cons,List.map_nil,I,O,H];exact q _ _ (h g d w' (by unfold AK;rw[Qk];exact n) ⟨c.os,c.tape,c.output,c.size,fun k D l=>c.block k D fun y=>l (by rw[<-y];simp)⟩ p)
theorem Df{P:Program}{m:Array Oper}{o:Oper}{a:Act}{K:Act->Wl->Prop}{Q:Exit->Act->Wl->Prop}{E:Prop}{w:Wl}(y:o.guard=none)(s x:Operand)(t:Ti)(F:o.op= .call {callee:= .builtin .append,args:=#[s,x],argTypes:=#[t,t]})(e:Ti)(z:Vl)(f:Nat)(L:P.underlying t=some (.slice e))(A:(P.info? e).map (fun i=>(i.zero,i.size,i.bytes))=some (some z,1,f))(T:z.cells.size=1)(sv:Vl)(xs:List Vl)(I:a.eval s=sv)(G:AK w sv e xs)(B:Nat)(u:Vl)(R:a.eval x= .slice (some ⟨B,0,none⟩) 1 1)(M:w.cell? ⟨B,0,none⟩=some u)(N:u.oneCell'=true)(l:(xs.length+1)*f<=140737488355328)(V:xs.length<=140737488355328)(h:∀g d w',AK w' (.slice (some ⟨g,0,none⟩) (xs.length+1) d) e (xs++[u])->Chg w w' sv.ownBlock.toList->(sv.ownBlock=some g\/g=w.heap.size)->
   K (a.put o.dst (.slice (some ⟨g,0,none⟩) (xs.length+1) d)) w'):
  if Region.wanted o (yielded m a.tmps)=true then Oper.wp P o a w K Q else E:=by
 obtain⟨i,hi,S,J,q⟩:=info_parts A
 have D:∀j v,[u][j]? =some v->w.cell? ((⟨B,0,none⟩:Addr).add j)=some v:=by
  intro j v b
  match j,b with
  |0,b=>simp at b;subst b;exact M
  |j+1,b=>simp at b
 obtain⟨g,d,w',H,n,c,p,U⟩:=run_append_lies (P:=P) w t o.type 0 e i z 1 f L hi S J q T ZM sv xs.length xs G ⟨B,0,none⟩ 1 1 [u] rfl D (by simpa using N) ZM (by unfold maxLen;omega) l (Nat.zero_le _) _ rfl;have O:Region.wanted o (yielded m a.tmps)=true:=by simp[Region.wanted,y]
 rw[Qr O];unfold Oper.wp execOp;simp only[F,resolve,invoke,builtin,Sem.run_bind,Sem.run_pure,Result.andThen_ok,List.map_toArray,List.map_cons,List.map_nil,I,R,H];exact(h g d w' (by unfold AK;rw[Qk];exact n) ⟨c.os,c.tape,c.output,c.size,fun k C l=>c.block k C fun r=>l (by rw[<-r];simp)⟩ p)
theorem AK.capLe{w:Wl}{a:Option Addr}{n b:Nat}{e:Ti}{vs:List Vl}(h:AK w (.slice a n b) e vs):n=vs.length/\vs.length<=b:=by
 rcases h.2 with⟨c,j⟩|⟨g,f,i,d,_,_,k,_⟩
 .injection c;omega
 .injection d;omega
theorem AK.pop{w:Wl}{a:Option Addr}{b:Nat}{e:Ti}{vs:List Vl}(h:AK w (.slice a vs.length b) e vs)(k:Nat)(v:k<=vs.length):AK w (.slice a k b) e (vs.take k):=by
 have f:(vs.take k).length=k:=by rw[Ql];omega
 refine⟨Zh, ?_⟩
 rcases h.2 with⟨c,s⟩|⟨g,r,i,d,o,p,u,l,m,n⟩
 .injection c with c t j
  subst c;subst j;have:k=0:=Zj
  subst this;exact .inl ⟨rfl,Zh⟩
 .injection d with d x q
  subst d;subst q;refine .inr ⟨g,b,i,by rw[f],o,p,Zj,l,m, ?_⟩;rw[f,Nat.mul_one,<-n,List.take_take]
  congr 1
  omega
theorem AK.lit(w:Wl)(cs:List Vl)(e:Ti)(n:Nat)(b:cs.length=n)(a:n<=maxLen):AK (w.alloc (.cells cs.toArray e)) (.slice (some ⟨w.heap.size,0,none⟩) n n) e cs:=by
 subst b;exact World.ownsRow_lit w cs.toArray cs.length (Nat.zero_le _) a Zh
theorem LC{P:Program}(w:Wl)(t g e:Ti)(i:TypeInfo)(f:P.underlying t=some (.slice e))(hi:P.info? e=some i)(a:Option Addr)(n b:Nat)(d:n<=b)(x:Option Addr)(c:Nat):
  (Builtin.append_ #[t,t] g #[.slice a n b,.slice x 0 c]).run P w= .ok (.slice a n b) w:=by
 cases a with
 |none=>cases x<;>simp[Builtin.append_,run_underlying f,sizeOf,typeInfo,hi,Builtin.lenOf,Builtin.firstCells,d]<;>rfl
 |some a=>
  cases x<;>simp[Builtin.append_,run_underlying f,sizeOf,typeInfo,hi,Builtin.lenOf,Builtin.firstCells,d]<;>rfl
theorem A1{P:Program}{f:Array Oper}{rest:List Oper}{o:Oper}{a:Act}{Q:Exit->Act->Wl->Prop}{w:Wl}(k:o.guard=none)(s x:Operand)(t:Ti)(l:o.op= .call {callee:= .builtin .append,args:=#[s,x],argTypes:=#[t,t]})(e:Ti)(i:TypeInfo)(q:P.underlying t=some (.slice e))(hi:P.info? e=some i)(b:Option Addr)(n d:Nat)(j:n<=d)(p:a.eval s= .slice b n d)(y:Option Addr)(c:Nat)(r:a.eval x= .slice y 0 c)(h:wpList P f Q rest (a.put o.dst (.slice b n d)) w):wpList P f Q (o::rest) a w:=by
 have m:=LC (P:=P) w t o.type e i q hi b n d j y c;refine wpList_plain k fun K g=> ?_
 unfold Oper.wp execOp;simp only[l,resolve,invoke,builtin,Sem.run_bind,Sem.run_pure,Result.andThen_ok,List.map_toArray,List.map_cons,List.map_nil,p,r,m];exact g _ _ h
end
section
open _root_.Go.Proofs.Tryz
open Go Go.RowKit
def Ho:Vl:= .string ⟨#[]⟩
theorem Ge:(prog.info? 62).map (fun i=>(i.zero,i.size,i.bytes))=some (some .nilIface,1,16):=Yb
theorem Cf:(prog.info? 9).map (fun i=>(i.zero,i.size,i.bytes))=some (some Ho,1,16):=Yb
theorem ZO:(prog.info? 5).map (fun i=>(i.zero,i.size,i.bytes))=some (some (.int .u8 0),1,1):=Yb
theorem FB(b o j:Nat):(⟨b,o,none⟩:Addr).add j=⟨b,o+j,none⟩:=by
 unfold Addr.add;split
 .simp_all
 .rfl
def Dm(w:Wl)(e:Ti)(vs:List Vl)(r:Ending)(w':Wl):Prop:=
 ∃v,r= .returned v/\AK w' v e vs/\(∀g,v.ownBlock=some g->w.heap.size<=g)/\Chg w w' []
theorem Dm.own{w d w2:Wl}{e:Ti}{vs:List Vl}{v:Vl}(h:w2.ownsRow w.heap.size e 1 v vs.length vs)(m:Chg w d [])(o:d.grownBy w2 (some w.heap.size))(n:d.drawn<=w2.drawn):Dm w e vs (.returned v) w2:=by
 refine⟨v,rfl, ?_,fun g p=>(World.ownsRow.lt h g p).1,m.grown o n fun k c q=> ?_⟩
 .obtain⟨a,b⟩:=h
  refine⟨a, ?_⟩
  rcases b with b|⟨g,j,l,f,_,i⟩
  .exact .inl b
  .exact .inr ⟨g,j,l,f,Nat.zero_le _,i⟩
 .injection c with c;subst c;exact absurd q (Nat.lt_irrefl _)
theorem FY{P:Program}{m:Array Oper}{rest:List Oper}{o:Oper}{a:Act}{Q:Exit->Act->Wl->Prop}{w:Wl}(B:o.guard=none)(s x:Operand)(t:Ti)(E:o.op= .call {callee:= .builtin .append,args:=#[s,x],argTypes:=#[t,t]})(base:Nat)(e:Ti)(z:Vl)(g:Nat)(I:P.underlying t=some (.slice e))(C:(P.info? e).map (fun i=>(i.zero,i.size,i.bytes))=some (some z,1,g))(M:z.cells.size=1)(v:Vl)(G:a.eval s=v)(F:w.ownsRow base e 1 v 0 [])(f:Addr)(c:Nat)(b:List Vl)(J:a.eval x= .slice (some f) b.length c)(D:∀j u,b[j]? =some u->w.cell? (f.add j)=some u)(n:∀u∈b,u.oneCell'=true)(N:b.length<=140737488355328)(A:b.length*g<=140737488355328)(r:base<=w.heap.size)(h:∀d w',w'.ownsRow base e 1 d b.length b->w.grownBy w' v.ownBlock->w.drawn<=w'.drawn->wpList P m Q rest (a.put o.dst d) w'):wpList P m Q (o::rest) a w:=by
 obtain⟨i,hi,L,H,y⟩:=info_parts C;obtain⟨d,w',l,k,p,_⟩:=run_append_own (P:=P) w base t o.type e i z 1 g I hi L H y M ZM v 0 [] F f b.length c b Zh D n (by unfold maxLen;omega) (by rw[Nat.zero_add];exact A) r;rw[Nat.zero_add,List.nil_append]at k;refine wpList_plain B fun K q=> ?_
 unfold Oper.wp execOp;simp only[E,resolve,invoke,builtin,Sem.run_bind,Sem.run_pure,Result.andThen_ok,List.map_toArray,List.map_cons,List.map_nil,G,J,l];exact q _ _ (h d w' k p (Vw _ _ _ _ l))
theorem Hd(b:Addr)(c:Nat)(vs:List Vl)(w:Wl)(f:∀j u,vs[j]? =some u->w.cell? (b.add j)=some u)(d:∀u∈vs,u.oneCell'=true)(r:vs.length<=4294967296):
  Cl prog 155 #[.slice (some b) vs.length c] w (Dm w 62 vs):=by
 have s:=fun(q:Wl) (a:Option Addr) (n c:Nat)=>Lib.run_eql_slice_nil (P:=prog) q 127 62 a n c 0 0 underlying127
 have i:=hZ d;have k:=hZ f;have h:=hZ (World.ownsRow_made w (e:=62) (size:=1) (base:=w.heap.size) #[] 0 (Q8 _) ZM Zh);clear d f;go_enter func155,ntmps155
 go_wp2_with(first
  |(at_builtin;refine FY rfl _ _ 127 rfl w.heap.size 62 .nilIface 16 underlying127 Ge rfl _ rfl h.o b c vs rfl ?c1 i.o ?c3 ?c4 ?c5 ?_))
 case c1=>intro j u p;exact((Chg.refl w []).alloc _).keeps (k.o j u p)
 case c3=>omega
 case c4=>omega
 case c5=>simp
 intro t v g o m;have l:=hZ g;clear g;go_wp2
 go_ret
 exact Dm.own l.o ((Chg.refl w []).alloc _) o m
theorem LW(F:Nat->Prop)(s:Vl)(vs:List Vl)(w:Wl)(l:Ax w F s vs)(f:∀u∈vs,u.oneCell'=true)(k:vs.length<=4294967296):
  Cl prog 155 #[s] w (Dm w 62 vs):=by
 rcases l with⟨rfl,a,c,rfl⟩|⟨b,o,c,rfl,_,h⟩
 .cases a with
  |none=>
   have p:=fun(m:Wl) (a:Option Addr) (n c:Nat)=>Lib.run_eql_slice_nil (P:=prog) m 127 62 a n c 0 0 underlying127
   go_enter func155,ntmps155
   go_wp2
   go_ret
   exact⟨_,rfl,AK.nil _ _,fun g i=>(by cases i),Chg.refl _ _⟩
  |some e=>exact Hd e c [] w (fun j u d=>by simp at d) (fun u d=>by simp at d) Zh
 .exact Hd ⟨b,o,none⟩ c vs w (fun j u d=>by rw[FB];exact h j u d) f k
theorem FI(b:Addr)(c:Nat)(vs:List Vl)(w:Wl)(f:∀j u,vs[j]? =some u->w.cell? (b.add j)=some u)(d:∀u∈vs,u.oneCell'=true)(r:vs.length<=4294967296):
  Cl prog 42 #[.slice (some b) vs.length c] w (Dm w 9 vs):=by
 have s:=fun(q:Wl) (a:Option Addr) (n c:Nat)=>Lib.run_eql_slice_nil (P:=prog) q 27 9 a n c 0 0 underlying27
 have i:=hZ d;have k:=hZ f;have h:=hZ (World.ownsRow_made w (e:=9) (size:=1) (base:=w.heap.size) #[] 0 (Q8 _) ZM Zh);clear d f;go_enter func42,ntmps42
 go_wp2_with(first
  |(at_builtin;refine FY rfl _ _ 27 rfl w.heap.size 9 Ho 16 underlying27 Cf rfl _ rfl h.o b c vs rfl ?c1 i.o ?c3 ?c4 ?c5 ?_))
 case c1=>intro j u p;exact((Chg.refl w []).alloc _).keeps (k.o j u p)
 case c3=>omega
 case c4=>omega
 case c5=>simp
 intro t v g o m;have l:=hZ g;clear g;go_wp2
 go_ret
 exact Dm.own l.o ((Chg.refl w []).alloc _) o m
theorem DL(F:Nat->Prop)(s:Vl)(vs:List Vl)(w:Wl)(l:Ax w F s vs)(f:∀u∈vs,u.oneCell'=true)(k:vs.length<=4294967296):
  Cl prog 42 #[s] w (Dm w 9 vs):=by
 rcases l with⟨rfl,a,c,rfl⟩|⟨b,o,c,rfl,_,h⟩
 .cases a with
  |none=>
   have p:=fun(m:Wl) (a:Option Addr) (n c:Nat)=>Lib.run_eql_slice_nil (P:=prog) m 27 9 a n c 0 0 underlying27
   go_enter func42,ntmps42
   go_wp2
   go_ret
   exact⟨_,rfl,AK.nil _ _,fun g i=>(by cases i),Chg.refl _ _⟩
  |some e=>exact FI e c [] w (fun j u d=>by simp at d) (fun u d=>by simp at d) Zh
 .exact FI ⟨b,o,none⟩ c vs w (fun j u d=>by rw[FB];exact h j u d) f k
end
section
open _root_.Go.Proofs.Tryz
open Go Go.RowKit Tree
structure C3(w:Wl)(F:Nat->Prop)(T:Ti)(b:Nat)(sv:Vl)(l:List Tr)(vs:List Vl):Prop where
 blk:Ac w b [sv] T
 lst:AK w sv 62 vs
 items:Ak w F l vs
 apart:¬F b
 apart':∀g,sv.ownBlock=some g->¬F g/\g≠b
 lt:∀k,F k->k<w.heap.size
theorem C3.notOwn{w:Wl}{F:Nat->Prop}{T:Ti}{b:Nat}{sv:Vl}{l:List Tr}{vs:List Vl}(h:C3 w F T b sv l vs):b∉sv.ownBlock.toList:=
 fun a=>(h.apart' b (by simpa using a)).2 rfl
theorem Af.oneCell{w:Wl}{F:Nat->Prop}{t:Tr}{v:Vl}(h:Af w F t v):v.oneCell'=true:=by
 cases t with
 |null=>simp only[Af]at h;subst h;rfl
 |flag b=>simp only[Af]at h;subst h;rfl
 |num b=>simp only[Af]at h;subst h;rfl
 |text s=>simp only[Af]at h;subst h;rfl
 |list l=>
  simp only[Af]at h;obtain⟨b,a,vs,rfl,_⟩:=h;rfl
 |obj ks l=>
  simp only[Af]at h;obtain⟨b,sk,a,vs,rfl,_⟩:=h;rfl
theorem Ak.oneCells{w:Wl}{F:Nat->Prop}:∀{l:List Tr} {vs:List Vl},Ak w F l vs->∀u∈vs,u.oneCell'=true
 |[],_,h=>by simp only[Ak]at h;subst h;intro u a;simp at a
 |t::l,vs,h=>by
  simp only[Ak]at h;obtain⟨v,r,rfl,b,c⟩:=h;intro u a
  rcases Qh.1 a with rfl|a
  .exact b.oneCell
  .exact c.oneCells u a
theorem Af.iface{w:Wl}{F:Nat->Prop}{t:Tr}{v:Vl}(h:Af w F t v):∃c x,v= .iface c x:=by
 cases t with
 |null=>simp only[Af]at h;exact⟨_,_,h⟩
 |flag b=>simp only[Af]at h;exact⟨_,_,h⟩
 |num b=>simp only[Af]at h;exact⟨_,_,h⟩
 |text s=>simp only[Af]at h;exact⟨_,_,h⟩
 |list l=>
  simp only[Af]at h;obtain⟨b,a,vs,h,_⟩:=h;exact⟨_,_,h⟩
 |obj ks l=>
  simp only[Af]at h;obtain⟨b,sk,a,vs,h,_⟩:=h;exact⟨_,_,h⟩
theorem Ak.length{w:Wl}{F:Nat->Prop}:∀{l:List Tr} {vs:List Vl},Ak w F l vs->vs.length=l.length
 |[],_,h=>by simp only[Ak]at h;subst h;rfl
 |t::l,vs,h=>by
  simp only[Ak]at h;obtain⟨v,r,rfl,_,a⟩:=h;simp[a.length]
theorem Ak.snoc{w:Wl}{F:Nat->Prop}{t:Tr}{v:Vl}(a:Af w F t v):∀{l:List Tr} {vs:List Vl},Ak w F l vs->Ak w F (l++[t]) (vs++[v])
 |[],_,h=>by
  simp only[Ak]at h;subst h;simp only[List.nil_append,Ak];exact⟨v,[],rfl,a,rfl⟩
 |e::l,vs,h=>by
  simp only[Ak]at h;obtain⟨d,r,rfl,b,c⟩:=h;simp only[Qo,Ak];exact⟨d,r++[v],rfl,b,c.snoc a⟩
def FZ(F:Nat->Prop)(T:Ti)(b:Nat)(sv:Vl)(l:List Tr)(w w':Wl):Prop:=
 ∃a c,C3 w' F T b a l c/\Chg w w' (b::sv.ownBlock.toList)/\∀g,a.ownBlock=some g->sv.ownBlock=some g\/w.heap.size<=g
theorem Rm(F:Nat->Prop)(t:Tr)(v:Vl)(b:Nat)(w:Wl)(a:Af w F t v)(d:(Ag t).within=false):
  Cl prog 108 #[.pointer (some ⟨b,0,none⟩),v] w fun e w'=>e= .panicked [{v:= .iface 50 (.int .i64 3),recovered:=false}]/\Chg w w' []:=by
 obtain⟨f,args,c,i⟩:=Gr t v a;have g:=hZ c;have h:=hZ d;have l:=hZ a;clear c d a;go_enter func108,ntmps108
 go_wp2_with(first
  |(refine Am rfl _ _ _ rfl _ rfl f args g.o _ i ?_;rintro e m ⟨rfl,j⟩;refine⟨_,rfl, ?_⟩;unfold SC)
  |(go_at_call 153;refine(FS _ _ _ _).mono ?_;rintro e w2 ⟨rfl,k⟩;rw[show Sz.within ⟨(Ag t).nodes,(Ag t).bytes,(Ag t).depth⟩=false from h.o]))
 exact⟨rfl,rfl,j.trans k⟩
theorem C3.kept{w w':Wl}{F:Nat->Prop}{T:Ti}{b:Nat}{sv:Vl}{l:List Tr}{vs:List Vl}(h:C3 w F T b sv l vs)(a:Chg w w' []):C3 w' F T b sv l vs:=
 ⟨h.blk.kept a,h.lst.kept a,Ak.kept (a.keepsF h.lt) (fun _ h=>h) l vs h.items,h.apart,h.apart',fun k c=>Q6 (h.lt k c) a.size⟩
theorem C3.newNotIn{w:Wl}{F:Nat->Prop}{T:Ti}{b:Nat}{sv:Vl}{l:List Tr}{vs:List Vl}(h:C3 w F T b sv l vs)(k:Nat)(c:w.heap.size<=k):k∉b::sv.ownBlock.toList:=by
 intro a
 rcases Qh.1 a with rfl|a
 .have:=h.blk.lt;omega
 .have:=h.lst.lt (g:=k) (by simpa using a);omega
theorem C3.push{w s w2 f:Wl}{F:Nat->Prop}{T:Ti}{b:Nat}{sv:Vl}{l m:List Tr}{vs us:List Vl}{t:Tr}{v:Vl}{g n o:Nat}(h:C3 w F T b sv l vs)(u:Ak w F m us)(D:Af w F t v)(x:Chg w s [])(y:AK w2 (.slice (some ⟨g,0,none⟩) n o) 62 (us++[v]))(z:Chg s w2 sv.ownBlock.toList)(a:sv.ownBlock=some g\/w.heap.size<=g)(A:Ac f b [.slice (some ⟨g,0,none⟩) n o] T)(q:Chg w2 f [b]):FZ F T b sv (m++[t]) w f:=by
 have B:Chg w w2 sv.ownBlock.toList:=(x.none _).trans z
 have r:g≠b:=by
  rcases a with a|a
  .exact(h.apart' g a).2
  .have:=h.blk.lt;omega
 have C:¬F g:=by
  rcases a with a|a
  .exact(h.apart' g a).1
  .intro e;have:=h.lt g e;omega
 have j:Chg w f (b::sv.ownBlock.toList):=(B.mono fun k _ d=>Qg _ d).step q fun i hi _=>by simp at hi;subst hi;simp
 have d:BZ F w f:=j.keepsF h.lt fun k d e=>by
  rcases Qh.1 d with rfl|d
  .exact h.apart e
  .exact(h.apart' k (by simpa using d)).1 e
 refine⟨_,us++[v],⟨A,y.kept q fun p c=> ?_, ?_,h.apart,fun p c=> ?_,fun k e=>Q6 (h.lt k e) j.size⟩,j,fun p c=> ?_⟩
 .simp[Vl.ownBlock]at c;subst c;simpa using r
 .exact Ak.snoc (Af.kept d (fun _ h=>h) t v D) (Ak.kept d (fun _ h=>h) m us u)
 .simp[Vl.ownBlock]at c;subst c;exact⟨C,r⟩
 .simp[Vl.ownBlock]at c;subst c;exact a
theorem EO(F:Nat->Prop)(T:Ti)(t:Tr)(v:Vl)(b:Nat)(sv:Vl)(l:List Tr)(vs:List Vl)(w:Wl)(i:C3 w F T b sv l vs)(n:Af w F t v)(q:(Ag t).within=true)(C:l.length<=2147483648):
  Cl prog 108 #[.pointer (some ⟨b,0,none⟩),v] w fun e w'=>e= .returned (.tuple #[])/\FZ F T b sv (l++[t]) w w':=by
 obtain⟨r,x,rfl⟩:=n.iface;obtain⟨f,args,p,B⟩:=Gr t _ n;have J:vs.length<=2147483648:=by rw[i.items.length];exact C
 have u:=hZ p;have z:=hZ q;have y:=hZ n;have a:=hZ i;have I:=i.blk.lt;clear p q n i;go_enter func108,ntmps108
 go_wp2_with(first
  |(refine Am rfl _ _ _ rfl _ rfl f args u.o _ B ?_;rintro e M ⟨rfl,k⟩;refine⟨_,rfl, ?_⟩;unfold SC)
  |(go_at_call 153;refine(FS _ _ _ _).mono ?_;rintro e w2 ⟨rfl,m⟩;rw[show Sz.within ⟨(Ag t).nodes,(Ag t).bytes,(Ag t).depth⟩=true from z.o];have d:=hZ (a.o.blk.kept (k.trans m));have D:w2.cell? ⟨b,0,none⟩=some sv:=d.o.cell 0;have G:∀j,w2.frozen? ⟨b,j,none⟩=false:=fun j=>d.o.frozen j;have K:=d.o.lt)
  |(at_builtin;refine AM rfl _ _ _ rfl 62 .nilIface 16 underlying127 Ge rfl sv vs rfl (((a.o.lst.kept (k.trans m)).kept ((Chg.refl w2 []).alloc _))) w2.heap.size (.iface r x) rfl Zh rfl Zj Zj ?_;intro g E s A o c;have h:=hZ ((d.o.alloc (.cells #[.iface r x] 62)).kept o a.o.notOwn);have c3:s.cell? ⟨b,0,none⟩=some sv:=h.o.cell 0;have H:∀j,s.frozen? ⟨b,j,none⟩=false:=fun j=>h.o.frozen j;have L:=h.o.lt))
 go_end0
 refine⟨rfl,a.o.push a.o.items y.o ((k.trans m).alloc _) A o ?_ (h.o.set 0 _) ((Chg.refl _ _).setCell _ _ Zh)⟩
 rcases c with c|c
 .exact .inl c
 .have:=(k.trans m).size;simp at c;exact .inr Zj
theorem AK.tailAt{w:Wl}{a:Option Addr}{b:Nat}{e:Ti}{vs:List Vl}(h:AK w (.slice a vs.length b) e vs)(k c:Nat)(g:k<=vs.length)(f:b=k):Ax w (fun _=>True) (.slice a (vs.length-k) c) (vs.drop k):=by
 have:=h.capLe;have d:vs.length-k=0:=Zj
 exact .inl ⟨List.drop_of_length_le Zj,a,c,by rw[d]⟩
theorem AK.tail{w:Wl}{a:Option Addr}{j:Nat}{e:Ti}{vs:List Vl}(h:AK w (.slice a vs.length j) e vs)(k c:Nat)(m:k<=vs.length):Ax w (fun _=>True) (.slice (Option.map (fun x=>x.add k) a) (vs.length-k) c) (vs.drop k):=by
 by_cases d:k=vs.length
 .subst d
  exact .inl ⟨Zh,Option.map (fun x=>x.add vs.length) a,c,Zh⟩
 .obtain⟨n,o,b,l⟩:=h.form
  obtain⟨g,rfl⟩:=l (by rintro rfl;simp at m d;omega)
  injection b with b;subst b
  refine .inr ⟨g,k,c, ?_,trivial,fun i v f=> ?_⟩
  .simp[FB]
  .rw[List.getElem?_drop]at f
   exact h.cell rfl _ v f
theorem JS(F:Nat->Prop)(T:Ti)(b:Nat)(sv:Vl)(l:List Tr)(vs:List Vl)(w:Wl)(c:C3 w F T b sv l vs)(n:Int)(g:(l.length:Int)<n):
  Cl prog 112 #[.pointer (some ⟨b,0,none⟩),.int .i64 n] w fun e w'=>e= .panicked [{v:= .iface 50 (.int .i64 102),recovered:=false}]/\Chg w w' []:=by
 obtain⟨a,d,rfl,f⟩:=c.lst.form;rw[<-c.items.length]at g;have h:w.cell? ⟨b,0,none⟩=some (.slice a vs.length d):=c.blk.cell 0;clear c f;go_enter func112,ntmps112
 go_wp2
 exact⟨rfl,rfl,Chg.refl _ _⟩
theorem GS(F:Nat->Prop)(T:Ti)(b:Nat)(sv:Vl)(l:List Tr)(vs:List Vl)(w:Wl)(c:C3 w F T b sv l vs)(n:Nat)(m:n<=l.length)(k:l.length<=2147483648):
  Cl prog 112 #[.pointer (some ⟨b,0,none⟩),.int .i64 n] w (Dm w 62 (vs.drop (vs.length-n))):=by
 obtain⟨a,i,rfl,s⟩:=c.lst.form;rw[<-c.items.length]at m k;have q:=hZ c;have r:w.cell? ⟨b,0,none⟩=some (.slice a vs.length i):=c.blk.cell 0;have t:=c.lst.capLe.2;have h:=hZ c.lst;have f:Hid (∀u∈vs.drop (vs.length-n),u.oneCell'=true):=fun u o=>(c.items.oneCells u (List.mem_of_mem_drop o))
 have g:Hid ((vs.drop (vs.length-n)).length<=4294967296):=by unfold Hid;rw[Qm];omega
 clear c;go_enter func112,ntmps112
 by_cases j:i=vs.length-n
 .go_wp2_with(first|(go_at_call 155;refine(LW (fun _=>True) _ _ _ (h.o.tailAt (vs.length-n) _ Zj j) f.o g.o).mono ?_;rintro e p ⟨v,rfl,d⟩))
  go_ret
  exact⟨v,rfl,d⟩
 .go_wp2_with(first|(go_at_call 155;refine(LW (fun _=>True) _ _ _ (h.o.tail (vs.length-n) _ Zj) f.o g.o).mono ?_;rintro e p ⟨v,rfl,d⟩))
  go_ret
  exact⟨v,rfl,d⟩
theorem Ie(F:Nat->Prop)(sl:Vl)(l:List Tr)(vs:List Vl)(n:Nat)(w:Wl)(hs:Ax w F sl vs)(hi:Ak w F l vs)(S:∀k,F k->k<w.heap.size)(W:EJ l)(hl:l.length<=65536)(hk:n<=1099511627776):
  Cl prog 114 #[sl,.int .i64 n] w fun e w'=>e= .returned (SC ((Bk l).over n))/\Chg w w' []:=by
 obtain⟨a,c,rfl,U⟩:=hs.cell;have ab:=hi.length;have HC:=hZ U;have HI:=hZ hi;have HF:=hZ S;have I:=hZ W;have L:=hZ ab;have an:vs.length<=65536:=Zj
 clear U hi S W hs ab;go_enter func114,ntmps114
 go_wp2_with fail
 go_loopw [13] (fun i wr=>∃k:Nat,k<=vs.length/\i= .int .i64 k/\Chg w wr []/\Ac wr (w.heap.size+1) [.int .i64 (1+(Bk (l.take k)).nodes),.int .i64 (n+(Bk (l.take k)).bytes),.int .i64 ((Bk (l.take k)).depth)] 224/\
   Ac wr w.heap.size [.int .i64 0,.int .i64 0,.int .i64 0] 224)
  (fun i _=>vs.length-(intOf i).toNat)
 case atStart=>
  refine⟨0,Zj,rfl,by(repeat(first|exact Chg.refl _ _|with_reducible refine c1 ?_ _|with_reducible refine q ?_|with_reducible refine c3 ?_ _|with_reducible refine c4 ?_ _ _ Zh|with_reducible refine c4 ?_ _ _ (by simp;omega))), ?_, ?_⟩
  .have:=Ac.new (w.alloc (.cells #[.int .i64 0,.int .i64 0,.int .i64 0] 224)) [.int .i64 1,.int .i64 n,.int .i64 0] 224
   simpa[Bk]using this
  .exact(Ac.new w [.int .i64 0,.int .i64 0,.int .i64 0] 224).alloc _
 case round=>
  obtain⟨k,am,rfl,X,g,R⟩:=hrel;have p:=(I.o.take k).sum;have b1:(l.take k).length<=65536:=by rw[Ql];omega
  obtain⟨N,B⟩:=Ue ((Bk (l.take k)).nodes)
  obtain⟨M,A⟩:=Ue ((Bk (l.take k)).bytes)
  obtain⟨D,z⟩:=Ue ((Bk (l.take k)).depth)
  rw[<-B,<-A,<-z]at g p;have K:=hZ B;have J:=hZ A;have H:=hZ z;clear B A z;have n1:N<=4294967296:=by have:=p.1;omega
  have n2:M<=137438953472:=by have:=p.2.1;omega
  have n3:D<=512:=p.2.2;clear p;have lb:=g.lt;have O:wr.cell? ⟨w.heap.size+1,0,none⟩=_:=g.cell 0;have c1:wr.cell? ⟨w.heap.size+1,1,none⟩=_:=g.cell 1;have q:wr.cell? ⟨w.heap.size+1,2,none⟩=_:=g.cell 2;have cf:∀j,wr.frozen? ⟨w.heap.size+1,j,none⟩=false:=fun j=>g.frozen j
  simp only[Qa,Qb]at O c1 q;have u:=hZ X;have HB:=hZ g;have h:=hZ R;clear X g R;by_cases ai:k<vs.length
  .have t:k<l.length:=by rw[<-L.o];exact ai
   obtain⟨v,G,Y⟩:=HI.o.get k l[k] (Q9 t);obtain⟨b,o,ah,ak,V⟩:=HC.o k v G;subst ah;have al:wr.cell? ⟨b,o+k,none⟩=some v:=u.o.keeps V;have E:Af wr F l[k] v:=Af.kept (u.o.keepsF HF.o) (fun _ h=>h) _ _ Y;obtain⟨ti,x,rfl⟩:=E.iface;obtain⟨f,args,Z,T⟩:=Gr _ _ E;have af:=hZ Z;have HV:=hZ G;have d:=(Ar (I.o l[k] (List.getElem_mem t)));obtain⟨S,C⟩:=Ue (Ag l[k])
   rw[<-C]at d T;obtain⟨s1,s2,s3⟩:=S;simp only at d;obtain⟨d,ap,w3⟩:=d
   have aa:Bk (l.take (k+1))=⟨N+s1,M+s2,max D s3⟩:=by
    rw[BM (Q9 t),<-C];unfold Sz.add;rw[<-K.o,<-J.o,<-H.o]
   have ag:=hZ aa;clear aa;clear Z G Y E C V
   go_wp2_with(first
    |(refine Am rfl _ _ _ rfl _ rfl f args af.o _ T ?_;rintro e d ⟨rfl,y⟩;refine⟨_,rfl, ?_⟩;unfold SC;have ae:=hZ y;have m:=hZ (HB.o.kept y);have ad:=hZ (h.o.kept y);have ao:=m.o.lt;have d0:d.cell? ⟨w.heap.size+1,0,none⟩=_:=m.o.cell 0;have d1:d.cell? ⟨w.heap.size+1,1,none⟩=_:=m.o.cell 1;have d2:d.cell? ⟨w.heap.size+1,2,none⟩=_:=m.o.cell 2;have df:∀j,d.frozen? ⟨w.heap.size+1,j,none⟩=false:=(fun j=>m.o.frozen j);simp only[Qa,Qb]at d0 d1 d2;clear y))
   go_roundw
   case rel=>
    have G2:=u.o.trans ae.o;refine⟨k+1,Zj,by go_num,by(repeat(first|exact G2|with_reducible refine c1 ?_ _|with_reducible refine q ?_|with_reducible refine c3 ?_ _|with_reducible refine c4 ?_ _ _ Zh|with_reducible refine c4 ?_ _ _ (by simp;omega))), ?_,by(apply Ac.eq;(·(repeat(first|exact ad.o|with_reducible apply Ac.drewN|with_reducible apply Ac.drew|with_reducible apply Ac.alloc|with_reducible apply Ac.set|(with_reducible apply Ac.set_other;rotate_left;(.first|(simp;done)|(simp;omega))))));rfl)⟩;apply Ac.eq
    ·(repeat(first|exact m.o|with_reducible apply Ac.drewN|with_reducible apply Ac.drew|with_reducible apply Ac.alloc|with_reducible apply Ac.set|(with_reducible apply Ac.set_other;rotate_left;(.first|(simp;done)|(simp;omega)))))
    .go_light
     rw[ag.o];simp;refine⟨Zj,Zj, ?_⟩;split<;>omega
   case measure=>simp[intOf];omega
  .have P:wr.cell? ⟨w.heap.size,0,none⟩=_:=h.o.cell 0
   have r:wr.cell? ⟨w.heap.size,1,none⟩=_:=h.o.cell 1;have s:wr.cell? ⟨w.heap.size,2,none⟩=_:=h.o.cell 2;have ef:∀j,wr.frozen? ⟨w.heap.size,j,none⟩=false:=fun j=>h.o.frozen j
   have aj:=h.o.lt;simp only[Qa,Qb]at P r s;go_wp2
   refine bodyPost_ret (v:= .agg #[.int .i64 (1+N),.int .i64 (n+M),.int .i64 (D+1)]) (by simp[results,results114,go_sem,aj,P,r,s,O,c1,q]) rfl ⟨?_, ?_⟩
   .go_light
    have t:l.take k=l:=Qn (by rw[<-L.o];omega);have r:=K.o;have s:=J.o;have Q:=H.o;rw[t]at r s Q;subst r;subst s;subst Q;unfold SC Sz.over;simp
   ·(repeat(first|exact u.o|with_reducible refine c1 ?_ _|with_reducible refine q ?_|with_reducible refine c3 ?_ _|with_reducible refine c4 ?_ _ _ Zh|with_reducible refine c4 ?_ _ _ (by simp;omega)))
theorem IZ(F:Nat->Prop)(t:Tr)(v:Vl)(b:Nat)(n:Int)(w:Wl)(a:Af w F t v)(d:(Ag t).within=false):
  Cl prog 113 #[.pointer (some ⟨b,0,none⟩),.int .i64 n,v] w fun e w'=>e= .panicked [{v:= .iface 50 (.int .i64 3),recovered:=false}]/\Chg w w' []:=by
 obtain⟨l,x,rfl⟩:=a.iface;obtain⟨f,args,c,i⟩:=Gr t _ a;have g:=hZ c;have h:=hZ d;clear c d a;go_enter func113,ntmps113
 go_wp2_with(first
  |(refine Am rfl _ _ _ rfl _ rfl f args g.o _ i ?_;rintro e m ⟨rfl,j⟩;refine⟨_,rfl, ?_⟩;unfold SC)
  |(go_at_call 153;refine(FS _ _ _ _).mono ?_;rintro e w2 ⟨rfl,k⟩;rw[show Sz.within ⟨(Ag t).nodes,(Ag t).bytes,(Ag t).depth⟩=false from h.o])
  |(go_at_call 106;refine(CD _ _).mono ?_;rintro e o ⟨rfl,rfl⟩))
 exact⟨rfl,rfl,j.trans k⟩
theorem I0(F:Nat->Prop)(T:Ti)(t:Tr)(v:Vl)(b:Nat)(sv:Vl)(l:List Tr)(vs:List Vl)(n:Nat)(w:Wl)(d:C3 w F T b sv l vs)(r:Af w F t v)(D:(Ag t).within=true)(P:n<=l.length)(O:l.length<=2147483648):
  Cl prog 113 #[.pointer (some ⟨b,0,none⟩),.int .i64 n,v] w fun e w'=>e= .returned (.tuple #[])/\FZ F T b sv (l.take (l.length-n)++[t]) w w':=by
 obtain⟨s,x,rfl⟩:=r.iface;obtain⟨f,args,B,N⟩:=Gr t _ r;obtain⟨a,c,rfl,M⟩:=d.lst.form;have y:=d.items.length;have Z:=d.lst.capLe.2;rw[<-y]at P O;have J:=hZ y;have H:=hZ (d.lst.pop (vs.length-n) Zj);have u:Hid ((vs.take (vs.length-n)).length=vs.length-n):=by unfold Hid;rw[Ql];omega
 have G:=hZ B;have K:=hZ D;have I:=hZ r;have o:=hZ d;have Y:=d.blk.lt;clear B D r d y M;go_enter func113,ntmps113
 go_wp2_with(first
  |(refine Am rfl _ _ _ rfl _ rfl f args G.o _ N ?_;rintro e w1 ⟨rfl,p⟩;refine⟨_,rfl, ?_⟩;unfold SC)
  |(go_at_call 153;refine(FS _ _ _ _).mono ?_;rintro e w2 ⟨rfl,q⟩;rw[show Sz.within ⟨(Ag t).nodes,(Ag t).bytes,(Ag t).depth⟩=true from K.o])
  |(go_at_call 106;refine(Au _ _).mono ?_;rintro e z ⟨rfl,rfl⟩))
 have i:=hZ (o.o.blk.kept (p.trans q));have U:w2.cell? ⟨b,0,none⟩=some (.slice a vs.length c):=i.o.cell 0;have W:∀j,w2.frozen? ⟨b,j,none⟩=false:=fun j=>i.o.frozen j
 have lb:=i.o.lt;have E:=hZ (((H.o.kept (p.trans q)).kept ((Chg.refl w2 []).alloc (.cells #[.iface s x] 62))));have z1:IntKind.i64.wrap ((vs.length:Int)-n)=(vs.length:Int)-n:=IntWalk.i64_in _ Zj;have z2:(0:Int)<=(vs.length:Int)-n:=Zj
 have z3:(vs.length:Int)-n<=(c:Int):=Zj
 have z4:((vs.length:Int)-n).toNat=vs.length-n:=Zj
 have R:(vs.length-n+1)*16<=140737488355328:=Zj
 have S:vs.length-n<=140737488355328:=Zj
 have Q:b∉(Vl.slice a (vs.length-n) c).ownBlock.toList:=by have:=o.o.notOwn;cases a<;>simpa[Vl.ownBlock]using this
 go_region_law(first|(refine Df rfl _ _ _ rfl 62 .nilIface 16 underlying127 Ge rfl (.slice a (vs.length-n) c) (vs.take (vs.length-n)) ZN (by exact E.o) w2.heap.size (.iface s x) ZN Zh rfl (by rw[u.o];exact R) (by rw[u.o];exact S) ?_;rw[u.o];intro g V z L A h;have k:=hZ ((i.o.alloc (.cells #[.iface s x] 62)).drew.kept A Q);have c3:z.cell? ⟨b,0,none⟩=some (.slice a vs.length c):=k.o.cell 0;have X:∀j,z.frozen? ⟨b,j,none⟩=false:=(fun j=>k.o.frozen j);have aa:=k.o.lt))
 all_goals go_end0
 all_goals
  have C:(Vl.slice a vs.length c).ownBlock=(Vl.slice a (vs.length-n) c).ownBlock:=by cases a<;>rfl
  refine⟨rfl,o.o.push (m:=l.take (l.length-n)) (us:=vs.take (vs.length-n)) ?_ I.o (((p.trans q).alloc (.cells #[.iface s x] 62)).drew) L (by rw[C];exact A) ?_ (k.o.set 0 _) ((Chg.refl _ _).setCell _ _ Zh)⟩
  .rw[<-J.o];exact o.o.items.take _
  .rw[C]
   rcases h with h|h
   .exact .inl h
   .have:=(p.trans q).size;simp at h;exact .inr Zj
end
end Go.Proofs.YtkfnkppdhcaeoaaGreatDoor

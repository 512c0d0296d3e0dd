/- Part 2 of the proof of patchJoined_card. -/
import Derived.Deep.Draws
import Derived.Lib.Hide
import Derived.WalkKit
import Ieee.Arith
import Derived.Test.YtkfnkppdhcaeoaaGreatDoorM01
set_option maxRecDepth 100000
set_option maxHeartbeats 32000000
set_option linter.unusedSimpArgs false
set_option linter.unusedVariables false
set_option linter.unnecessarySimpa false
namespace Fl
open Go renaming Calls->Cl,TypeId->Ti,Value->Vl,World->Wl
section
open Ieee
def A7(n:Nat):Nat:=n % 9223372036854775808
def Fh(n:Nat):Bool:=decide (A7 n<9218868437227405312)
theorem sw:double.signWeight=9223372036854775808:=by decide
theorem Zn:double.binade=4503599627370496:=by decide
theorem Zv:double.infRung=9218868437227405312:=by decide
theorem MB(n:Nat):double.order n n=if A7 n<=9218868437227405312 then some .eq else none:=by
 unfold Format.order Format.read;simp only[sw,Zn,Zv];rw[show n % 9223372036854775808=A7 n from rfl];by_cases a:A7 n<4503599627370496
 .rw[Qr a,Qr (by omega)];simp[Datum.order]
 .rw[Qs a]
  by_cases b:A7 n<9218868437227405312
  .rw[Qr b,Qr (by omega)];simp[Datum.order]
  .rw[Qs b]
   by_cases c:A7 n=9218868437227405312
   .rw[Qr c,Qr (by omega)];simp[Datum.order]
   .rw[Qs c,Qs (by omega)];simp[Datum.order]
theorem N9(n:Nat):(double.order n n !=some .eq)=decide (9218868437227405312<A7 n):=by
 rw[MB];by_cases h:A7 n<=9218868437227405312
 .rw[Qr h,decide_eq_false (by omega)];decide
 .rw[Qs h,decide_eq_true (by omega)];decide
theorem Xa{a b:Nat}(h:a<=b):(some (compare (a:Int) (b:Int))==some Ordering.gt)=false:=by
 rw[Qq];intro g
 injection g with g
 rw[Int.compare_eq_gt]at g;omega
theorem XL(m k:Nat):m<=m<<<k:=by
 rw[Nat.shiftLeft_eq];exact Nat.le_mul_of_pos_right _ (Nat.two_pow_pos k)
theorem Rv(m n:Nat)(i j:Int)(b:i<=j)(a:m<=n):((Datum.number false m i).order (.number false n j)==some .gt)=false:=by
 simp only[Datum.order,signed];rw[show min i j=i from by omega];simp only[Int.sub_self,Int.toNat_zero,Nat.shiftLeft_zero,Bool.false_eq_true,if_false];exact Xa (Q7 a (XL _ _))
theorem KZ:double.leastPlace= -1074:=by decide
theorem N8(n:Nat):(double.order (n % 9223372036854775808) 9218868437227405311==some .gt)=decide (A7 n=9218868437227405312):=by
 rw[show n % 9223372036854775808=A7 n from rfl];have d:A7 n<9223372036854775808:=Nat.mod_lt _ (by decide);have g:double.read 9218868437227405311= .number false 9007199254740991 971:=by decide
 unfold Format.order;rw[g];unfold Format.read;simp only[sw,Zn,Zv];have e:A7 n % 9223372036854775808=A7 n:=Nat.mod_eq_of_lt d;have f:A7 n/9223372036854775808=0:=Nat.div_eq_of_lt d;rw[e,f];by_cases b:A7 n<4503599627370496
 .rw[Qr b,decide_eq_false (by omega)]
  rw[KZ];exact Rv _ _ _ _ (by decide) (by omega)
 .rw[Qs b]
  by_cases c:A7 n<9218868437227405312
  .rw[Qr c,decide_eq_false (by omega)]
   rw[KZ];exact Rv _ _ _ _ (by omega) (by omega)
  .rw[Qs c]
   by_cases a:A7 n=9218868437227405312
   .rw[Qr a,decide_eq_true a];simp[Datum.order]
   .rw[Qs a,decide_eq_false a];simp[Datum.order]
theorem Mb(n:Nat):(double.order n 0==some .eq)=decide (A7 n=0):=by
 have f:double.read 0= .number false 0 (-1074):=by decide
 unfold Format.order;rw[f];unfold Format.read;simp only[sw,Zn,Zv];rw[show n % 9223372036854775808=A7 n from rfl];by_cases b:A7 n<4503599627370496
 .rw[Qr b,KZ]
  simp only[Datum.order,signed];by_cases e:A7 n=0
  .rw[e];cases (n/9223372036854775808 % 2==1)<;>simp
  .rw[decide_eq_false e]
   rw[Qq];intro g
   injection g with g
   simp only[Int.min_self,Int.sub_self,Int.toNat_zero,Nat.shiftLeft_zero]at g;rw[Int.compare_eq_eq]at g;cases a:(n/9223372036854775808 % 2==1)<;>rw[a]at g<;>simp at g<;>omega
 .rw[Qs b,decide_eq_false (by omega)]
  by_cases c:A7 n<9218868437227405312
  .rw[Qr c]
   rw[Qq];simp only[Datum.order,signed];intro g
   injection g with g
   rw[Int.compare_eq_eq]at g;rw[KZ]at g;rw[show min (-1074+((A7 n/4503599627370496-1:Nat):Int)) (-1074)= -1074 from by omega]at g;have h:=XL (4503599627370496+A7 n % 4503599627370496) (-1074+((A7 n/4503599627370496-1:Nat):Int)- -1074).toNat;cases a:(n/9223372036854775808 % 2==1)<;>rw[a]at g<;>simp at g<;>omega
  .rw[Qs c]
   by_cases d:A7 n=9218868437227405312
   .rw[Qr d];cases (n/9223372036854775808 % 2==1)<;>simp[Datum.order]
   .rw[Qs d];simp[Datum.order]
theorem JE(s:Bool)(n:Nat):Toward.even.cut s n 0=n:=by
 simp[Toward.cut,Nat.mod_one]
def JO(b:Nat):Nat:=if b<4503599627370496 then b else 4503599627370496+b % 4503599627370496
def ES(b:Nat):Nat:=if b<4503599627370496 then 0 else b/4503599627370496-1
def val(b:Nat):Nat:=JO b*2^ES b
theorem Gx{a b:Nat}(h:a<b):val a<val b:=by
 unfold val JO ES;by_cases d:b<4503599627370496
 .rw[Qr d,Qr d,Qr (by omega),Qr (by omega)];omega
 .rw[Qs d,Qs d]
  have f:0<2^(b/4503599627370496-1):=Nat.two_pow_pos _;have p:(4503599627370496+b % 4503599627370496)*1<=(4503599627370496+b % 4503599627370496)*2^(b/4503599627370496-1):=Nat.mul_le_mul_left _ f;by_cases e:a<4503599627370496
  .rw[Qr e,Qr e];omega
  .rw[Qs e,Qs e]
   by_cases g:a/4503599627370496=b/4503599627370496
   .rw[g]
    exact Nat.mul_lt_mul_of_pos_right (by omega) f
   .have l:a/4503599627370496<b/4503599627370496:=by
     have:=Nat.div_le_div_right (c:=4503599627370496) (Nat.le_of_lt h);omega
    have m:(4503599627370496+a % 4503599627370496)*2^(a/4503599627370496-1)<9007199254740992*2^(a/4503599627370496-1):=Nat.mul_lt_mul_of_pos_right (by omega) (Nat.two_pow_pos _)
    have n:9007199254740992*2^(a/4503599627370496-1)=4503599627370496*2^(a/4503599627370496):=by
     obtain⟨k,j⟩:∃k,a/4503599627370496=k+1:=⟨a/4503599627370496-1,by omega⟩
     rw[j,Nat.add_sub_cancel,Nat.pow_succ];omega
    have i:2^(a/4503599627370496)<=2^(b/4503599627370496-1):=Nat.pow_le_pow_right (by omega) (by omega);have o:4503599627370496*2^(a/4503599627370496)<=(4503599627370496+b % 4503599627370496)*2^(b/4503599627370496-1):=Nat.mul_le_mul (by omega) i;omega
def tr(b:Nat):Nat:=JO b/2^(1074-ES b)
theorem RW{b:Nat}(h:A7 b<9218868437227405312):double.read b= .number (b/9223372036854775808 % 2==1) (JO (A7 b)) (-1074+(ES (A7 b):Int)):=by
 unfold Format.read;simp only[sw,Zn,Zv,KZ];rw[show b % 9223372036854775808=A7 b from rfl];unfold JO ES;by_cases a:A7 b<4503599627370496
 .rw[Qr a,Qr a,Qr a];simp
 .rw[Qs a,Qs a,Qs a,Qr h]
theorem Vi{a b:Nat}(f:A7 a<9218868437227405312)(g:A7 b<9218868437227405312):
  ∃x y p:Nat,0<p/\val (A7 a)=x*p/\val (A7 b)=y*p/\double.order a b=some (compare (if(a/9223372036854775808 % 2==1)=true then-(x:Int)else x) (if(b/9223372036854775808 % 2==1)=true then-(y:Int)else y)):=by
 unfold Format.order;rw[RW f,RW g];simp only[Datum.order,signed];have e:min (-1074+(ES (A7 a):Int)) (-1074+(ES (A7 b):Int))= -1074+((min (ES (A7 a)) (ES (A7 b)):Nat):Int):=by omega
 rw[e];have c:(-1074+(ES (A7 a):Int)-(-1074+((min (ES (A7 a)) (ES (A7 b)):Nat):Int))).toNat=ES (A7 a)-min (ES (A7 a)) (ES (A7 b)):=by omega
 have d:(-1074+(ES (A7 b):Int)-(-1074+((min (ES (A7 a)) (ES (A7 b)):Nat):Int))).toNat=ES (A7 b)-min (ES (A7 a)) (ES (A7 b)):=by omega
 rw[c,d,Nat.shiftLeft_eq,Nat.shiftLeft_eq];refine⟨_,_,2^min (ES (A7 a)) (ES (A7 b)),Nat.two_pow_pos _, ?_, ?_,rfl⟩
 .unfold val;rw[Nat.mul_assoc,<-Nat.pow_add];congr 2;omega
 .unfold val;rw[Nat.mul_assoc,<-Nat.pow_add];congr 2;omega
theorem Uz{a b:Nat}(h:val a=val b):a=b:=by
 rcases Nat.lt_trichotomy a b with g|g|g
 .have:=Gx g;omega
 .exact g
 .have:=Gx g;omega
theorem X8:val 0=0:=by decide
theorem Tq{a b:Nat}(A:a<18446744073709551616)(B:b<18446744073709551616)(s:A7 a<9218868437227405312)(t:A7 b<9218868437227405312)(q:A7 a=0->a=0)(r:A7 b=0->b=0):
  (double.order a b==some .eq)=decide (a=b):=by
 obtain⟨x,y,p,v,g,i,u⟩:=Vi s t;rw[u,Bool.eq_iff_iff,beq_iff_eq,Option.some.injEq,Int.compare_eq_eq,decide_eq_true_eq]
 constructor
 .intro h
  have d:∀{c z:Nat},val (A7 c)=z*p->z=0->A7 c=0:=fun{c z} n d=>by
   subst d;rw[Nat.zero_mul,<-X8]at n;exact Uz n
  have m:A7 a=A7 b->(a/9223372036854775808 % 2==1)=(b/9223372036854775808 % 2==1)->a=b:=fun w f=>by
   unfold A7 at w;have:(a/9223372036854775808 % 2=1)↔(b/9223372036854775808 % 2=1):=by rw[<-beq_iff_eq,<-beq_iff_eq (a:=b/9223372036854775808 % 2),f]
   omega
  have o:x=y->A7 a=A7 b:=fun e=>Uz (by rw[g,i,e])
  cases f:(a/9223372036854775808 % 2==1)<;>cases j:(b/9223372036854775808 % 2==1)<;>rw[f,j]at h<;>simp only[Bool.false_eq_true,if_false,if_true]at h
  .exact m (o (by omega)) (by rw[f,j])
  .have k:=d g (by omega);have l:=d i (by omega)
   rw[q k,r l]
  .have k:=d g (by omega);have l:=d i (by omega)
   rw[q k,r l]
  .exact m (o (by omega)) (by rw[f,j])
 .intro h
  subst h;have:=Nat.eq_of_mul_eq_mul_right v (g.symm.trans i);rw[this]
end
end Fl
namespace Go.Proofs.YtkfnkppdhcaeoaaGreatDoor
open Go renaming Calls->Cl,TypeId->Ti,Value->Vl,World->Wl
section
open Go
theorem UK{c:Type}(s:Ask c):∀w:Wl,w.drawn<=(w.ask s).2.drawn:=by
 induction s with
 |done a=>intro w;exact Q8 _
 |ask d range k b=>
  intro w;unfold World.ask
  dsimp only
  split
  .exact b _ w
  .exact Q7 (Nat.le_succ w.drawn) (b _ {w with drawn:=w.drawn+1})
theorem VO(w:Wl)(c:Sys):w.drawn<=(w.sys c).2.drawn:=by
 have:=UK (Kernel.perform c w.os) w;unfold World.sys;split
 .exact Q8 _
 .rename_i h
  rw[h]at this;exact this
theorem LE{p:Program}{w w':Wl}{a:Addr}{u:Ti}{k:Addr}{v:Vl}{b:Bool}{l:List Addr}(h:w.viewStore p a u k v b= .ok (w',l)):w'.drawn=w.drawn:=by
 unfold World.viewStore at h;simp only[bind,Except.bind,pure,Except.pure,throw,throwThe,MonadExceptOf.throw]at h
 repeat' split at h
 all_goals first|(cases h;done)|(injection h with h;injection h with c d;subst c;rfl)|trace_state
theorem Pc(w:Wl)(a:Addr)(n:Nat):(w.freeze a n).drawn=w.drawn:=by
 unfold World.freeze;split<;>rfl
theorem Vw{g:Type}{p:Program}(s:Sem g):∀(w:Wl) (v:g) (w':Wl),s.run p w= .ok v w'->w.drawn<=w'.drawn:=by
 induction s with
 |pure a=>intro w v w' h;simp only[Sem.run]at h;injection h with f e;subst e;exact Q8 _
 |load m a k b=>
  intro w v w' h;simp only[Sem.run]at h;split at h
  .exact b _ _ _ _ h
  .split at h
   .exact b _ _ _ _ h
   .cases h
 |store m a x k b=>
  intro w v w' h;cases x<;>simp only[Sem.run]at h<;>try (cases h;done)
  all_goals
   split at h
   .split at h
    .cases h
    .have:=b _ _ _ h;exact this
   .split at h
    .rename_i d
     have f:=b _ _ _ h;unfold World.farStore at d;split at d
     .split at d
      .rename_i i
       injection d with d
       have e:=LE i;rw[d]at e;rw[<-e];exact f
      .cases d
     .cases d
    .cases h
 |new o k b=>intro w v w' h;simp only[Sem.run]at h;have:=b _ _ _ _ h;exact this
 |shape r k b=>intro w v w' h;simp only[Sem.run]at h;exact b _ _ _ _ h
 |freeze a n k b=>intro w v w' h;simp only[Sem.run]at h;have:=b _ _ _ h;rw[Pc]at this;exact this
 |frozen a k b=>intro w v w' h;simp only[Sem.run]at h;exact b _ _ _ _ h
 |getObj r k b=>
  intro w v w' h;simp only[Sem.run]at h;split at h
  .cases h
  .exact b _ _ _ _ h
  .cases h
 |setObj r o k b=>
  intro w v w' h;simp only[Sem.run]at h;split at h
  .cases h
  .have:=b _ _ _ h;exact this
  .cases h
 |choose q k b=>
  intro w v w' h;simp only[Sem.run]at h;split at h
  .exact b _ _ _ _ h
  .exact Q7 (Nat.le_succ _) (b _ _ _ _ h)
 |sys c k b=>intro w v w' h;simp only[Sem.run]at h;exact Q7 (VO w c) (b _ _ _ _ h)
 |program k b=>intro w v w' h;simp only[Sem.run]at h;exact b _ _ _ _ h
 |mark m k b=>intro w v w' h;simp only[Sem.run]at h;exact b _ _ _ h
 |halt h=>intro w v w' h;simp only[Sem.run]at h;cases h
end
section
open Go Go.RowKit
structure Chg(w w':Wl)(bs:List Nat):Prop where
 os:w'.os=w.os
 tape:w'.tape=w.tape
 output:w'.output=w.output
 size:w.heap.size<=w'.heap.size
 block:∀k,k<w.heap.size->k∉bs->w'.heap[k]? =w.heap[k]?
theorem Chg.refl(w:Wl)(bs:List Nat):Chg w w bs:=⟨rfl,rfl,rfl,Q8 _,fun _ _ _=>rfl⟩
theorem Chg.trans{a b c:Wl}{bs:List Nat}(h:Chg a b bs)(k:Chg b c bs):Chg a c bs:=
 ⟨k.os.trans h.os,k.tape.trans h.tape,k.output.trans h.output,Q7 h.size k.size,
  fun i hi d=>(k.block i (Q6 hi h.size) d).trans (h.block i hi d)⟩
theorem Chg.mono{a b:Wl}{bs cs:List Nat}(h:Chg a b bs)(e:∀k,k<a.heap.size->k∈bs->k∈cs):Chg a b cs:=
 ⟨h.os,h.tape,h.output,h.size,fun i hi d=>h.block i hi fun c=>d (e i hi c)⟩
theorem Chg.none{a b:Wl}(h:Chg a b [])(cs:List Nat):Chg a b cs:=h.mono fun _ _ c=>by cases c
theorem DI{a b:Wl}(h:Below a.heap.size a b):Chg a b []:=⟨h.os,h.tape,h.output,h.size,fun k c _=>h.block k c⟩
theorem Chg.below{a b:Wl}{bs:List Nat}{B:Nat}(h:Chg a b bs)(c:B<=a.heap.size)(d:∀k,k∈bs->B<=k):Below B a b:=
 ⟨h.os,h.tape,h.output,h.size,fun k e=>h.block k (Q6 e c) fun f=>by have:=d k f;omega⟩
theorem Chg.step{a b c:Wl}{bs cs:List Nat}(h:Chg a b bs)(k:Chg b c cs)(f:∀i,i∈cs->i<a.heap.size->i∈bs):Chg a c bs:=
 ⟨k.os.trans h.os,k.tape.trans h.tape,k.output.trans h.output,Q7 h.size k.size,
  fun i hi d=>(k.block i (Q6 hi h.size) fun e=>d (f i e hi)).trans (h.block i hi d)⟩
theorem Chg.fresh{a b c:Wl}{bs cs:List Nat}(h:Chg a b bs)(k:Chg b c cs)(e:∀i,i∈cs->a.heap.size<=i):Chg a c bs:=
 h.step k fun i d hi=>absurd hi (Nat.not_lt.2 (e i d))
theorem Chg.alloc{a b:Wl}{bs:List Nat}(h:Chg a b bs)(o:Obj):Chg a (b.alloc o) bs:=
 h.step (cs:=[]) ⟨rfl,rfl,rfl,by simp,fun k c _=>Below.heap_alloc _ _ _ c⟩ (fun _ d=>by cases d)
theorem Chg.setCell{a b:Wl}{bs:List Nat}(h:Chg a b bs)(p:Addr)(u:Vl)(e:p.block<a.heap.size->p.block∈bs):Chg a (b.setCell p u) bs:=
 h.step (cs:=[p.block]) ⟨rfl,rfl,rfl,by simp[World.setCell],fun k _ d=>Below.heap_setCell _ _ _ _ (by simpa using d)⟩
  (fun i c hi=>by simp at c;subst c;exact e hi)
theorem Chg.drew{a b:Wl}{bs:List Nat}(h:Chg a b bs):Chg a b.drew bs:=⟨h.os,h.tape,h.output,h.size,h.block⟩
theorem Chg.drewN{a b:Wl}{bs:List Nat}(h:Chg a b bs)(n:Nat):Chg a (b.drewN n) bs:=⟨h.os,h.tape,h.output,h.size,h.block⟩
theorem _root_.Go.RowKit.Hid.o{p:Prop}(h:RowKit.Hid p):p:=h
theorem hZ{p:Prop}(h:p):RowKit.Hid p:=h
structure Xt(c b:Wl):Prop where
 h:∀a bs,Chg a c bs->Chg a b bs
instance xt0 (c:Wl):Nonempty (Xt c c):=⟨⟨fun _ _ h=>h⟩⟩
instance xt1 (c b:Wl) (o:Obj) [h:Nonempty (Xt c b)]:Nonempty (Xt c (b.alloc o)):=⟨⟨fun a bs k=>(h.elim fun x=>x.h a bs k).alloc o⟩⟩
instance xt2 (c b:Wl) [h:Nonempty (Xt c b)]:Nonempty (Xt c b.drew):=⟨⟨fun a bs k=>(h.elim fun x=>x.h a bs k).drew⟩⟩
instance xt3 (c b:Wl) (n:Nat) [h:Nonempty (Xt c b)]:Nonempty (Xt c (b.drewN n)):=⟨⟨fun a bs k=>(h.elim fun x=>x.h a bs k).drewN n⟩⟩
theorem cg{a c b:Wl}{bs:List Nat}(k:Chg a c bs)[h:Nonempty (Xt c b)]:Chg a b bs:=h.elim fun x=>x.h a bs k
theorem ct{a b c d:Wl}{bs:List Nat}(k:Chg a c bs)[h:Nonempty (Xt c b)](g:Chg b d bs):Chg a d bs:=(cg k).trans g
theorem cR{w:Wl}{bs:List Nat}:Chg w w bs:=Chg.refl w bs
theorem c1{a b:Wl}{bs:List Nat}(h:Chg a b bs)(n:Nat):Chg a (b.drewN n) bs:=h.drewN n
theorem c2{a b:Wl}{bs:List Nat}(h:Chg a b bs):Chg a b.drew bs:=h.drew
theorem c3{a b:Wl}{bs:List Nat}(h:Chg a b bs)(o:Obj):Chg a (b.alloc o) bs:=h.alloc o
theorem mr{P:Program}{f:FuncId}{as:Array Vl}{w:Wl}{x:Ending}{p:Wl->Prop}{Q:Ending->Wl->Prop}(h:Cl P f as w fun e w'=>e=x/\p w')(k:∀w',p w'->Q x w'):Cl P f as w Q:=h.mono fun e w' j=>j.1▸k w' j.2
theorem c4{a b:Wl}{bs:List Nat}(h:Chg a b bs)(p:Addr)(u:Vl)(c:p.block<a.heap.size->p.block∈bs):Chg a (b.setCell p u) bs:=h.setCell p u c
theorem Chg.grown{a b c:Wl}{bs:List Nat}{row:Option Nat}(h:Chg a b bs)(d:b.grownBy c row)(m:b.drawn<=c.drawn)(l:∀k,row=some k->k<a.heap.size->k∈bs):Chg a c bs:=
 h.step (cs:=row.toList) ⟨d.os,d.tape,d.output,d.size,fun k f j=>d.block k f fun e=>j (by simp[<-e])⟩
  (fun i g hi=>l i (by simpa using g) hi)
theorem Chg.cell{a b:Wl}{bs:List Nat}(h:Chg a b bs){p:Addr}(d:p.block<a.heap.size)(c:p.block∉bs):b.cell? p=a.cell? p:=
 World.cell?_of_block (w:=a) (h.block p.block d c)
theorem Chg.keeps{a b:Wl}(h:Chg a b []){p:Addr}{v:Vl}(c:a.cell? p=some v):b.cell? p=some v:=
 (h.cell (World.block_lt_of_cell? a _ c) (by simp)).trans c
theorem Chg.frozen{a b:Wl}{bs:List Nat}(h:Chg a b bs){p:Addr}(d:p.block<a.heap.size)(c:p.block∉bs):b.frozen? p=a.frozen? p:=
 World.frozen?_of_block (w:=a) (h.block p.block d c)
def Ac(w:Wl)(b:Nat)(cs:List Vl)(T:Ti):Prop:=w.heap[b]? =some (.cells cs.toArray T (0,0))
theorem Ac.eq{w:Wl}{b:Nat}{cs a:List Vl}{T:Ti}(h:Ac w b cs T)(e:cs=a):Ac w b a T:=e▸h
theorem Ac.lt{w:Wl}{b:Nat}{cs:List Vl}{T:Ti}(h:Ac w b cs T):b<w.heap.size:=(Array.getElem?_eq_some_iff.1 h).1
theorem Ac.cell{w:Wl}{b:Nat}{cs:List Vl}{T:Ti}(h:Ac w b cs T)(j:Nat):w.cell? ⟨b,j,none⟩=cs[j]? :=by
 unfold Ac at h;simp[World.cell?,h]
theorem Ac.frozen{w:Wl}{b:Nat}{cs:List Vl}{T:Ti}(h:Ac w b cs T)(j:Nat):w.frozen? ⟨b,j,none⟩=false:=by
 unfold Ac at h;simp[World.frozen?,h]
theorem Ac.cells1{w:Wl}{b:Nat}{a:Vl}{T:Ti}(h:Ac w b [a] T):b<w.heap.size/\(∀j,w.frozen? ⟨b,j,none⟩=false)/\w.cell? ⟨b,0,none⟩=some a:=
 ⟨h.lt,fun j=>h.frozen j,h.cell 0⟩
theorem Ac.cells6{w:Wl}{b:Nat}{a c d e f g:Vl}{T:Ti}(h:Ac w b [a,c,d,e,f,g] T):b<w.heap.size/\(∀j,w.frozen? ⟨b,j,none⟩=false)/\w.cell? ⟨b,0,none⟩=some a/\
  w.cell? ⟨b,1,none⟩=some c/\w.cell? ⟨b,2,none⟩=some d/\w.cell? ⟨b,3,none⟩=some e/\w.cell? ⟨b,4,none⟩=some f/\w.cell? ⟨b,5,none⟩=some g:=
 ⟨h.lt,fun j=>h.frozen j,h.cell 0,h.cell 1,h.cell 2,h.cell 3,h.cell 4,h.cell 5⟩
theorem Ac.kept{w w':Wl}{bs:List Nat}{b:Nat}{cs:List Vl}{T:Ti}(h:Ac w b cs T)(a:Chg w w' bs)(c:b∉bs:=by simp):Ac w' b cs T:=
 (a.block b h.lt c).trans h
theorem Ac.alloc{w:Wl}{b:Nat}{cs:List Vl}{T:Ti}(h:Ac w b cs T)(o:Obj):Ac (w.alloc o) b cs T:=
 (Below.heap_alloc w o b h.lt).trans h
theorem Ac.new(w:Wl)(cs:List Vl)(T:Ti):Ac (w.alloc (.cells cs.toArray T)) w.heap.size cs T:=heap_alloc_new w _
theorem Ac.drew{w:Wl}{b:Nat}{cs:List Vl}{T:Ti}(h:Ac w b cs T):Ac w.drew b cs T:=h
theorem Ac.drewN{w:Wl}{b:Nat}{cs:List Vl}{T:Ti}(h:Ac w b cs T)(n:Nat):Ac (w.drewN n) b cs T:=h
theorem Ac.set{w:Wl}{b:Nat}{cs:List Vl}{T:Ti}(h:Ac w b cs T)(j:Nat)(v:Vl):Ac (w.setCell ⟨b,j,none⟩ v) b (cs.set j v) T:=by
 unfold Ac at*;simp only[World.setCell,Array.getElem?_modify,h];simp
theorem Ac.set_other{w:Wl}{b:Nat}{cs:List Vl}{T:Ti}(h:Ac w b cs T)(a:Addr)(v:Vl)(c:a.block≠b):Ac (w.setCell a v) b cs T:=
 (Below.heap_setCell w a v b (fun e=>c e.symm)).trans h
theorem Bo{a b:Bool}(h:a=b):Ending.returned (.bool a)= .returned (.bool b):=by rw[h]
theorem E5{k:IntKind}{a b:Int}(h:a=b):Ending.returned (.int k a)= .returned (.int k b):=by rw[h]
theorem TM{a b:BY}(h:a=b):Ending.returned (.string a)= .returned (.string b):=by rw[h]
theorem CN{b:Func}{t u v x:Tmp}(h:b.results=#[.tmp t,.tmp u,.tmp v,.tmp x])(a:Array Vl)(P:Program)(w:Wl):
  (results b a).run P w= .ok (.tuple #[a.getD t undef,a.getD u undef,a.getD v undef,a.getD x undef]) w:=by
 simp[results,h]
theorem Ac.row{w:Wl}{b:Nat}{cs:List Vl}{T:Ti}(h:Ac w b cs T)(a:List Vl):Ac (w.setRow b a.toArray) b a T:=setRow_heap w b _ _ _ _ h
theorem Chg.setRow{a b:Wl}{bs:List Nat}(h:Chg a b bs)(g:Nat)(c:Array Vl)(f:g<a.heap.size->g∈bs):Chg a (b.setRow g c) bs:=
 h.step (cs:=[g]) ⟨rfl,rfl,rfl,by simp,fun k _ e=>setRow_other b g k c (by simpa using e)⟩ (fun i d hi=>by simp at d;subst d;exact f hi)
theorem Ae{P:Program}{e:Array Oper}{rest:List Oper}{o:Oper}{a:Act}{w:Wl}{Q:Exit->Act->Wl->Prop}(i:o.guard=none)(c:Ti)(x y:Operand)(k:o.op= .store c x y)(g:Nat)(b:List Vl)(m:a.eval x= .pointer (some ⟨g,0,none⟩))(n:a.eval y= .agg b.toArray)(T:Ti)(cs:List Vl)(d:Ac w g cs T)(hi:(P.info? c).map (·.size)=some b.length)(j:cs.length=b.length)(f:∀v∈b,v.oneCell'=true)(h:∀w',w'.heap.size=w.heap.size->Ac w' g b T->Chg w w' [g]->wpList P e Q rest (a.put o.dst undef) w'):wpList P e Q (o::rest) a w:=
 wpList_store_row i c x y k g b.toArray m n T cs.toArray d (by simpa using hi) (by simpa using j) (Array.all_eq_true_iff_forall_mem.2 fun v l=>f v (by simpa using l))
  (h _ (by simp) (d.row b) ((Chg.refl _ _).setRow _ _ (by simp)))
theorem Bp{P:Program}{c:Array Oper}{rest:List Oper}{o:Oper}{a:Act}{w:Wl}{Q:Exit->Act->Wl->Prop}(i:o.guard=none)(b:Ti)(x:Operand)(j:o.op= .load b x)(g:Nat)(l:a.eval x= .pointer (some ⟨g,0,none⟩))(T:Ti)(cs:List Vl)(e:Ac w g cs T)(d:TypeDesc)(k:P.underlying b=some d)(f:(match d with| .struct _| .array _ _=>true|_=>false)=true)(hi:(P.info? b).map (·.size)=some cs.length)(h:wpList P c Q rest (a.put o.dst (.agg cs.toArray)) w):wpList P c Q (o::rest) a w:=
 wpList_load_row i b x j g l T cs.toArray (0,0) d e k f (by simpa using hi) h
theorem Bi{P:Program}{c:Func}{p:Tmp}{b:Ti}(h:c.results=#[.cell p b])(a:Array Vl)(w:Wl)(g:Nat)(T:Ti)(cs:List Vl)(d:TypeDesc)(i:a.getD p undef= .pointer (some ⟨g,0,none⟩))(e:Ac w g cs T)(j:P.underlying b=some d)(f:(match d with| .struct _| .array _ _=>true|_=>false)=true)(hi:(P.info? b).map (·.size)=some cs.length):
  (results c a).run P w= .ok (.agg cs.toArray) w:=
 results_cell_row h a w g T cs.toArray (0,0) d i e j f (by simpa using hi)
structure AB(w w':Wl)(bs:List Nat):Prop extends Chg w w' bs where
 drawn:w.drawn<=w'.drawn
instance {w w':Wl} {bs:List Nat}:Coe (AB w w' bs) (Chg w w' bs):=⟨AB.toChg⟩
theorem AB.refl(w:Wl)(bs:List Nat):AB w w bs:=⟨Chg.refl w bs,Q8 _⟩
theorem AB.trans{a b c:Wl}{bs:List Nat}(h:AB a b bs)(k:AB b c bs):AB a c bs:=⟨Chg.trans h.toChg k.toChg,Q7 h.drawn k.drawn⟩
theorem AB.mono{a b:Wl}{bs cs:List Nat}(h:AB a b bs)(c:∀k,k<a.heap.size->k∈bs->k∈cs):AB a b cs:=⟨Chg.mono h.toChg c,h.drawn⟩
theorem AB.none{a b:Wl}(h:AB a b [])(cs:List Nat):AB a b cs:=h.mono fun _ _ c=>by cases c
theorem AB.step{a b c:Wl}{bs cs:List Nat}(h:AB a b bs)(k:AB b c cs)(d:∀i,i∈cs->i<a.heap.size->i∈bs):AB a c bs:=⟨Chg.step h.toChg k.toChg d,Q7 h.drawn k.drawn⟩
theorem AB.fresh{a b c:Wl}{bs cs:List Nat}(h:AB a b bs)(k:AB b c cs)(d:∀i,i∈cs->a.heap.size<=i):AB a c bs:=⟨Chg.fresh h.toChg k.toChg d,Q7 h.drawn k.drawn⟩
theorem AB.alloc{a b:Wl}{bs:List Nat}(h:AB a b bs)(o:Obj):AB a (b.alloc o) bs:=⟨Chg.alloc h.toChg o,h.drawn⟩
theorem AB.setCell{a b:Wl}{bs:List Nat}(h:AB a b bs)(p:Addr)(u:Vl)(c:p.block<a.heap.size->p.block∈bs):AB a (b.setCell p u) bs:=⟨Chg.setCell h.toChg p u c,h.drawn⟩
theorem AB.drew{a b:Wl}{bs:List Nat}(h:AB a b bs):AB a b.drew bs:=⟨Chg.drew h.toChg,Q7 h.drawn (Nat.le_succ _)⟩
theorem AB.drewN{a b:Wl}{bs:List Nat}(h:AB a b bs)(n:Nat):AB a (b.drewN n) bs:=⟨Chg.drewN h.toChg n,Q7 h.drawn (Nat.le_add_right _ _)⟩
structure Xd(c b:Wl):Prop where
 h:∀a bs,AB a c bs->AB a b bs
instance xd0 (c:Wl):Nonempty (Xd c c):=⟨⟨fun _ _ h=>h⟩⟩
instance xd1 (c b:Wl) (o:Obj) [h:Nonempty (Xd c b)]:Nonempty (Xd c (b.alloc o)):=⟨⟨fun a bs k=>(h.elim fun x=>x.h a bs k).alloc o⟩⟩
instance xd2 (c b:Wl) [h:Nonempty (Xd c b)]:Nonempty (Xd c b.drew):=⟨⟨fun a bs k=>(h.elim fun x=>x.h a bs k).drew⟩⟩
instance xd3 (c b:Wl) (n:Nat) [h:Nonempty (Xd c b)]:Nonempty (Xd c (b.drewN n)):=⟨⟨fun a bs k=>(h.elim fun x=>x.h a bs k).drewN n⟩⟩
theorem cd{a c b:Wl}{bs:List Nat}(k:AB a c bs)[h:Nonempty (Xd c b)]:AB a b bs:=h.elim fun x=>x.h a bs k
theorem OW(s:BY)(a i:Nat)(h:i<s.size):(bytesRow s a)[i]? =some (.int .u8 (Utf.Aj s i)):=by
 unfold bytesRow;rw[Utf.BV h,Array.getElem?_append_left (by simpa using h)];simp[h];rfl
theorem GJ{P:Program}(w:Wl)(c b e:Ti)(s:BY)(h:P.underlying c=some .string)(f:P.underlying b=some (.slice e))(g:P.underlying e=some (.int .u8)):
  ∃(d:Nat) (a:Wl),(convert c b (.string s)).run P w= .ok (.slice (some ⟨w.heap.size,0,none⟩) s.size d) a/\s.size<=d/\AB w a []/\a.heap.size=w.heap.size+1/\
   ∀i,i<s.size->a.cell? ⟨w.heap.size,i,none⟩=some (.int .u8 (Utf.Aj s i)):=by
 refine⟨_,_,run_bytes_of_string w c b e s h f g,grownCap_ge _ _ _ _,(AB.refl w []).drew.alloc _,by simp,fun i hi=> ?_⟩
 show(w.drew.alloc _).cell? ⟨w.drew.heap.size,i,none⟩=_
 rw[World.cell?_alloc_mark];exact OW s _ i hi
end
end Go.Proofs.YtkfnkppdhcaeoaaGreatDoor

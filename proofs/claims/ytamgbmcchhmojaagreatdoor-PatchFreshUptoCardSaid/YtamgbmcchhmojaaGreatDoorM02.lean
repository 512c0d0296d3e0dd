/- Part 2 of the proof of patchFresh_card. -/
import Derived.Deep.Draws
import Derived.Lib.Hide
import Derived.Lib.ItoaNum
import Derived.RegionTactic
import Derived.WalkKit
import Ieee.Arith
import Derived.Test.YtamgbmcchhmojaaGreatDoorM01
set_option maxRecDepth 100000
set_option maxHeartbeats 32000000
set_option linter.all false
namespace Fl
open Go renaming Calls->Cl,TypeId->Ti,Value->Vl,World->Wl
open Go.Value renaming int->nI,slice->nS,string->nG,tuple->nT
open Go.Ending renaming returned->nR
open Go.Obj renaming cells->nC
open Option renaming none->nN,some->nM
section
open Ieee
variable{a b:Nat}
def A7(n:Nat):Nat:=n % 9223372036854775808
def Fh(n:Nat):Bool:=decide (A7 n<9218868437227405312)
theorem sw:double.signWeight=9223372036854775808:=ZM
theorem Zn:double.binade=4503599627370496:=ZM
theorem Zv:double.infRung=9218868437227405312:=ZM
theorem MB(n:Nat):double.order n n=if A7 n<=9218868437227405312 then some .eq else none:=by
 unfold Format.order Format.read;simp only[sw,Zn,Zv];rw[show n % 9223372036854775808=A7 n from rfl];by_cases a:A7 n<4503599627370496
 .rw[Qr a,Qr Zj];simp[Datum.order]
 .rw[Qs a];by_cases b:A7 n<9218868437227405312
  .rw[Qr b,Qr Zj];simp[Datum.order]
  .rw[Qs b];by_cases c:A7 n=9218868437227405312
   .rw[Qr c,Qr Zj];simp[Datum.order]
   .rw[Qs c,Qs Zj];simp[Datum.order]
theorem N9(n:Nat):(double.order n n !=some .eq)=decide (9218868437227405312<A7 n):=by
 rw[MB];by_cases h:A7 n<=9218868437227405312
 .rw[Qr h,decide_eq_false Zj];decide
 .rw[Qs h,decide_eq_true Zj];decide
theorem Xa(h:a<=b):(some (compare (a:Int) (b:Int))==some Ordering.gt)=false:=by
 rw[Qq];intro g;injection g with g
 rw[Int.compare_eq_gt]at g;omega
theorem XL(m k:Nat):m<=m<<<k:=by
 rw[Nat.shiftLeft_eq];exact Nat.le_mul_of_pos_right _ (Nat.two_pow_pos k)
theorem Rv(m n:Nat)(i j:Int)(b:i<=j)(a:m<=n):((Datum.number false m i).order (.number false n j)==some .gt)=false:=by
 simp only[Datum.order,signed];rw[show min i j=i from by omega];simp only[Int.sub_self,Int.toNat_zero,Nat.shiftLeft_zero,Bool.false_eq_true,if_false];exact Xa (Q7 a (XL _ _))
theorem KZ:double.leastPlace= -1074:=ZM
theorem N8(n:Nat):(double.order (n % 9223372036854775808) 9218868437227405311==some .gt)=decide (A7 n=9218868437227405312):=by
 rw[show n % 9223372036854775808=A7 n from rfl];have d:A7 n<9223372036854775808:=Nat.mod_lt _ ZM;have g:double.read 9218868437227405311= .number false 9007199254740991 971:=ZM;unfold Format.order;rw[g];unfold Format.read;simp only[sw,Zn,Zv];have e:A7 n % 9223372036854775808=A7 n:=Nat.mod_eq_of_lt d;have f:A7 n/9223372036854775808=0:=Nat.div_eq_of_lt d;rw[e,f];by_cases b:A7 n<4503599627370496
 .rw[Qr b,decide_eq_false Zj];rw[KZ];exact Rv _ _ _ _ ZM Zj
 .rw[Qs b];by_cases c:A7 n<9218868437227405312
  .rw[Qr c,decide_eq_false Zj];rw[KZ];exact Rv _ _ _ _ Zj Zj
  .rw[Qs c];by_cases a:A7 n=9218868437227405312
   .rw[Qr a,decide_eq_true a];simp[Datum.order]
   .rw[Qs a,decide_eq_false a];simp[Datum.order]
theorem Mb(n:Nat):(double.order n 0==some .eq)=decide (A7 n=0):=by
 have f:double.read 0= .number false 0 (-1074):=ZM;unfold Format.order;rw[f];unfold Format.read;simp only[sw,Zn,Zv];rw[show n % 9223372036854775808=A7 n from rfl];by_cases b:A7 n<4503599627370496
 .rw[Qr b,KZ];simp only[Datum.order,signed];by_cases e:A7 n=0
  .rw[e];cases (n/9223372036854775808 % 2==1)<;>simp
  .rw[decide_eq_false e];rw[Qq];intro g;injection g with g
   simp only[Int.min_self,Int.sub_self,Int.toNat_zero,Nat.shiftLeft_zero]at g;rw[Int.compare_eq_eq]at g;cases a:(n/9223372036854775808 % 2==1)<;>rw[a]at g<;>simp at g<;>omega
 .rw[Qs b,decide_eq_false Zj];by_cases c:A7 n<9218868437227405312
  .rw[Qr c];rw[Qq];simp only[Datum.order,signed];intro g;injection g with g
   rw[Int.compare_eq_eq]at g;rw[KZ]at g;rw[show min (-1074+((A7 n/4503599627370496-1:Nat):Int)) (-1074)= -1074 from by omega]at g;have h:=XL (4503599627370496+A7 n % 4503599627370496) (-1074+((A7 n/4503599627370496-1:Nat):Int)- -1074).toNat;cases a:(n/9223372036854775808 % 2==1)<;>rw[a]at g<;>simp at g<;>omega
  .rw[Qs c];by_cases d:A7 n=9218868437227405312
   .rw[Qr d];cases (n/9223372036854775808 % 2==1)<;>simp[Datum.order]
   .rw[Qs d];simp[Datum.order]
theorem JE(s:Bool)(n:Nat):Toward.even.cut s n 0=n:=by
 simp[Toward.cut,Nat.mod_one]
def JO(b:Nat):Nat:=if b<4503599627370496 then b else 4503599627370496+b % 4503599627370496
def ES(b:Nat):Nat:=if b<4503599627370496 then 0 else b/4503599627370496-1
def val(b:Nat):Nat:=JO b*2^ES b
theorem Gx(h:a<b):val a<val b:=by
 unfold val JO ES;by_cases d:b<4503599627370496
 .rw[Qr d,Qr d,Qr Zj,Qr Zj];omega
 .rw[Qs d,Qs d];have f:0<2^(b/4503599627370496-1):=Nat.two_pow_pos _;have p:(4503599627370496+b % 4503599627370496)*1<=(4503599627370496+b % 4503599627370496)*2^(b/4503599627370496-1):=Nat.mul_le_mul_left _ f;by_cases e:a<4503599627370496
  .rw[Qr e,Qr e];omega
  .rw[Qs e,Qs e];by_cases g:a/4503599627370496=b/4503599627370496
   .rw[g];exact Nat.mul_lt_mul_of_pos_right Zj f
   .have l:a/4503599627370496<b/4503599627370496:=by
     have:=Nat.div_le_div_right (c:=4503599627370496) (Nat.le_of_lt h);omega
    have m:(4503599627370496+a % 4503599627370496)*2^(a/4503599627370496-1)<9007199254740992*2^(a/4503599627370496-1):=Nat.mul_lt_mul_of_pos_right Zj (Nat.two_pow_pos _)
    have n:9007199254740992*2^(a/4503599627370496-1)=4503599627370496*2^(a/4503599627370496):=by
     obtain⟨k,j⟩:∃k,a/4503599627370496=k+1:=⟨a/4503599627370496-1,Zj⟩;rw[j,Nat.add_sub_cancel,Nat.pow_succ];omega
    have i:2^(a/4503599627370496)<=2^(b/4503599627370496-1):=Nat.pow_le_pow_right Zj Zj;have o:4503599627370496*2^(a/4503599627370496)<=(4503599627370496+b % 4503599627370496)*2^(b/4503599627370496-1):=Nat.mul_le_mul Zj i;omega
def tr(b:Nat):Nat:=JO b/2^(1074-ES b)
theorem RW(h:A7 b<9218868437227405312):double.read b= .number (b/9223372036854775808 % 2==1) (JO (A7 b)) (-1074+(ES (A7 b):Int)):=by
 unfold Format.read;simp only[sw,Zn,Zv,KZ];rw[show b % 9223372036854775808=A7 b from rfl];unfold JO ES;by_cases a:A7 b<4503599627370496
 .rw[Qr a,Qr a,Qr a];simp
 .rw[Qs a,Qs a,Qs a,Qr h]
theorem _root_.zk{p:Prop}(h:p:=by unfold val;rw[Nat.mul_assoc,<-Nat.pow_add];congr 2;omega):p:=h
theorem Vi(f:A7 a<9218868437227405312)(g:A7 b<9218868437227405312):
  ∃x y p:Nat,0<p/\val (A7 a)=x*p/\val (A7 b)=y*p/\double.order a b=some (compare (if(a/9223372036854775808 % 2==1)=true then-(x:Int)else x) (if(b/9223372036854775808 % 2==1)=true then-(y:Int)else y)):=by
 unfold Format.order;rw[RW f,RW g];simp only[Datum.order,signed];have e:min (-1074+(ES (A7 a):Int)) (-1074+(ES (A7 b):Int))= -1074+((min (ES (A7 a)) (ES (A7 b)):Nat):Int):=Zj;rw[e];have c:(-1074+(ES (A7 a):Int)-(-1074+((min (ES (A7 a)) (ES (A7 b)):Nat):Int))).toNat=ES (A7 a)-min (ES (A7 a)) (ES (A7 b)):=Zj;have d:(-1074+(ES (A7 b):Int)-(-1074+((min (ES (A7 a)) (ES (A7 b)):Nat):Int))).toNat=ES (A7 b)-min (ES (A7 a)) (ES (A7 b)):=Zj;rw[c,d,Nat.shiftLeft_eq,Nat.shiftLeft_eq];refine⟨_,_,2^min (ES (A7 a)) (ES (A7 b)),Nat.two_pow_pos _, ?_, ?_,rfl⟩
 .exact zk
 .exact zk
theorem Uz(h:val a=val b):a=b:=by
 rcases Nat.lt_trichotomy a b with g|g|g
 .have:=Gx g;omega
 .exact g
 .have:=Gx g;omega
theorem X8:val 0=0:=ZM
theorem Tq(A:a<18446744073709551616)(B:b<18446744073709551616)(s:A7 a<9218868437227405312)(t:A7 b<9218868437227405312)(q:A7 a=0->a=0)(r:A7 b=0->b=0):
  (double.order a b==some .eq)=decide (a=b):=by
 obtain⟨x,y,p,v,g,i,u⟩:=Vi s t;rw[u,Bool.eq_iff_iff,beq_iff_eq,Option.some.injEq,Int.compare_eq_eq,decide_eq_true_eq];constructor
 .intro h
  have d:∀{c z:Nat},val (A7 c)=z*p->z=0->A7 c=0:=fun{c z} n d=>by
   subst d;rw[Nat.zero_mul,<-X8]at n;exact Uz n
  have m:A7 a=A7 b->(a/9223372036854775808 % 2==1)=(b/9223372036854775808 % 2==1)->a=b:=fun w f=>by
   unfold A7 at w;have:(a/9223372036854775808 % 2=1)↔(b/9223372036854775808 % 2=1):=by rw[<-beq_iff_eq,<-beq_iff_eq (a:=b/9223372036854775808 % 2),f]
   omega
  have o:x=y->A7 a=A7 b:=fun e=>Uz (by rw[g,i,e]);cases f:(a/9223372036854775808 % 2==1)<;>cases j:(b/9223372036854775808 % 2==1)<;>rw[f,j]at h<;>simp only[Bool.false_eq_true,if_false,if_true]at h
  .exact m (o Zj) (by rw[f,j])
  .have k:=d g Zj;have l:=d i Zj;rw[q k,r l]
  .have k:=d g Zj;have l:=d i Zj;rw[q k,r l]
  .exact m (o Zj) (by rw[f,j])
 .intro h;subst h;have:=Nat.eq_of_mul_eq_mul_right v (g.symm.trans i);rw[this]
end
end Fl
namespace Go.Proofs.YtamgbmcchhmojaaGreatDoor
open Go renaming Calls->Cl,TypeId->Ti,Value->Vl,World->Wl
open Go.Value renaming int->nI,slice->nS,string->nG,tuple->nT
open Go.Ending renaming returned->nR
open Go.Obj renaming cells->nC
open Option renaming none->nN,some->nM
section
open Go
variable{p:Program}
theorem UK{c:Type}(s:Ask c):∀w:Wl,w.drawn<=(w.ask s).2.drawn:=by
 induction s with
 |done a=>intro w;exact Q8 _
 |ask d range k b=>
  intro w;unfold World.ask;dsimp only;split
  .exact b _ w
  .exact Q7 (Nat.le_succ w.drawn) (b _ {w with drawn:=w.drawn+1})
theorem VO(w:Wl)(c:Sys):w.drawn<=(w.sys c).2.drawn:=by
 have:=UK (Kernel.perform c w.os) w;unfold World.sys;split
 .exact Q8 _
 .rename_i h;rw[h]at this;exact this
theorem LE{w w':Wl}{a:Addr}{u:Ti}{k:Addr}{v:Vl}{b:Bool}{l:List Addr}(h:w.viewStore p a u k v b= .ok (w',l)):w'.drawn=w.drawn:=by
 unfold World.viewStore at h;simp only[bind,Except.bind,pure,Except.pure,throw,throwThe,MonadExceptOf.throw]at h;repeat' split at h
 all_goals first|(cases h;done)|(injection h with h;injection h with c d;subst c;rfl)|trace_state
theorem Pc(w:Wl)(a:Addr)(n:Nat):(w.freeze a n).drawn=w.drawn:=by
 unfold World.freeze;split<;>rfl
theorem Vw{g:Type}(s:Sem g):∀(w:Wl) (v:g) (w':Wl),s.run p w= .ok v w'->w.drawn<=w'.drawn:=by
 induction s with
 |pure a=>intro w v w' h;simp only[Sem.run]at h;injection h with f e;subst e;exact Q8 _
 |load m a k b=>
  intro w v w' h;simp only[Sem.run]at h;split at h
  .exact b _ _ _ _ h
  .split at h
   .exact b _ _ _ _ h
   .cases h
 |store m a x k b=>
  intro w v w' h;cases x<;>simp only[Sem.run]at h<;>try (cases h;done)
  all_goals
   split at h
   .split at h
    .cases h
    .have:=b _ _ _ h;exact this
   .split at h
    .rename_i d;have f:=b _ _ _ h;unfold World.farStore at d;split at d
     .split at d
      .rename_i i;injection d with d
       have e:=LE i;rw[d]at e;rw[<-e];exact f
      .cases d
     .cases d
    .cases h
 |new o k b=>intro w v w' h;simp only[Sem.run]at h;have:=b _ _ _ _ h;exact this
 |shape r k b=>intro w v w' h;simp only[Sem.run]at h;exact b _ _ _ _ h
 |freeze a n k b=>intro w v w' h;simp only[Sem.run]at h;have:=b _ _ _ h;rw[Pc]at this;exact this
 |frozen a k b=>intro w v w' h;simp only[Sem.run]at h;exact b _ _ _ _ h
 |getObj r k b=>
  intro w v w' h;simp only[Sem.run]at h;split at h
  .cases h
  .exact b _ _ _ _ h
  .cases h
 |setObj r o k b=>
  intro w v w' h;simp only[Sem.run]at h;split at h
  .cases h
  .have:=b _ _ _ h;exact this
  .cases h
 |choose q k b=>
  intro w v w' h;simp only[Sem.run]at h;split at h
  .exact b _ _ _ _ h
  .exact Q7 (Nat.le_succ _) (b _ _ _ _ h)
 |sys c k b=>intro w v w' h;simp only[Sem.run]at h;exact Q7 (VO w c) (b _ _ _ _ h)
 |program k b=>intro w v w' h;simp only[Sem.run]at h;exact b _ _ _ _ h
 |mark m k b=>intro w v w' h;simp only[Sem.run]at h;exact b _ _ _ h
 |halt h=>intro w v w' h;simp only[Sem.run]at h;cases h
end
section
open Go Go.RowKit
variable{bs:List Nat}{cs:List Vl}{P:Program}{p:Prop}{T:Ti}{a b c w:Wl}
structure Chg(w w':Wl)(bs:List Nat):Prop where
 os:w'.os=w.os
 tape:w'.tape=w.tape
 output:w'.output=w.output
 size:w.heap.size<=w'.heap.size
 block:∀k,k<w.heap.size->k∉bs->w'.heap[k]? =w.heap[k]?
theorem Chg.refl(w:Wl)(bs:List Nat):Chg w w bs:=⟨rfl,rfl,rfl,Q8 _,fun _ _ _=>rfl⟩
theorem Chg.trans(h:Chg a b bs)(k:Chg b c bs):Chg a c bs:=
 ⟨k.os.trans h.os,k.tape.trans h.tape,k.output.trans h.output,Q7 h.size k.size,
  fun i hi d=>(k.block i (Q6 hi h.size) d).trans (h.block i hi d)⟩
theorem Chg.mono{cs:List Nat}(h:Chg a b bs)(e:∀k,k<a.heap.size->k∈bs->k∈cs):Chg a b cs:=
 ⟨h.os,h.tape,h.output,h.size,fun i hi d=>h.block i hi fun c=>d (e i hi c)⟩
theorem Chg.none(h:Chg a b [])(cs:List Nat):Chg a b cs:=h.mono fun _ _ c=>by cases c
theorem DI(h:Below a.heap.size a b):Chg a b []:=⟨h.os,h.tape,h.output,h.size,fun k c _=>h.block k c⟩
theorem Chg.below{B:Nat}(h:Chg a b bs)(c:B<=a.heap.size)(d:∀k,k∈bs->B<=k):Below B a b:=
 ⟨h.os,h.tape,h.output,h.size,fun k e=>h.block k (Q6 e c) fun f=>by have:=d k f;omega⟩
theorem Chg.step{cs:List Nat}(h:Chg a b bs)(k:Chg b c cs)(f:∀i,i∈cs->i<a.heap.size->i∈bs):Chg a c bs:=
 ⟨k.os.trans h.os,k.tape.trans h.tape,k.output.trans h.output,Q7 h.size k.size,
  fun i hi d=>(k.block i (Q6 hi h.size) fun e=>d (f i e hi)).trans (h.block i hi d)⟩
theorem Chg.fresh{cs:List Nat}(h:Chg a b bs)(k:Chg b c cs)(e:∀i,i∈cs->a.heap.size<=i):Chg a c bs:=
 h.step k fun i d hi=>absurd hi (Nat.not_lt.2 (e i d))
theorem Chg.alloc(h:Chg a b bs)(o:Obj):Chg a (b.alloc o) bs:=
 h.step (cs:=[]) ⟨rfl,rfl,rfl,Zh,fun k c _=>Below.heap_alloc _ _ _ c⟩ (fun _ d=>by cases d)
theorem Chg.setCell(h:Chg a b bs)(p:Addr)(u:Vl)(e:p.block<a.heap.size->p.block∈bs):Chg a (b.setCell p u) bs:=
 h.step (cs:=[p.block]) ⟨rfl,rfl,rfl,by simp[World.setCell],fun k _ d=>Below.heap_setCell _ _ _ _ (by simpa using d)⟩
  (fun i c hi=>by simp at c;subst c;exact e hi)
theorem Chg.drew(h:Chg a b bs):Chg a b.drew bs:=⟨h.os,h.tape,h.output,h.size,h.block⟩
theorem Chg.drewN(h:Chg a b bs)(n:Nat):Chg a (b.drewN n) bs:=⟨h.os,h.tape,h.output,h.size,h.block⟩
theorem _root_.Go.RowKit.Hid.o(h:RowKit.Hid p):p:=h
theorem hZ(h:p):RowKit.Hid p:=h
structure Xt(c b:Wl):Prop where
 h:∀a bs,Chg a c bs->Chg a b bs
instance xt0 (c:Wl):Nonempty (Xt c c):=⟨⟨fun _ _ h=>h⟩⟩
instance xt1 (c b:Wl) (o:Obj) [h:Nonempty (Xt c b)]:Nonempty (Xt c (b.alloc o)):=⟨⟨fun a bs k=>(h.elim fun x=>x.h a bs k).alloc o⟩⟩
instance xt2 (c b:Wl) [h:Nonempty (Xt c b)]:Nonempty (Xt c b.drew):=⟨⟨fun a bs k=>(h.elim fun x=>x.h a bs k).drew⟩⟩
instance xt3 (c b:Wl) (n:Nat) [h:Nonempty (Xt c b)]:Nonempty (Xt c (b.drewN n)):=⟨⟨fun a bs k=>(h.elim fun x=>x.h a bs k).drewN n⟩⟩
theorem cg(k:Chg a c bs)[h:Nonempty (Xt c b)]:Chg a b bs:=h.elim fun x=>x.h a bs k
theorem ct{d:Wl}(k:Chg a c bs)[h:Nonempty (Xt c b)](g:Chg b d bs):Chg a d bs:=(cg k).trans g
theorem cR:Chg w w bs:=Chg.refl w bs
theorem c1(h:Chg a b bs)(n:Nat):Chg a (b.drewN n) bs:=h.drewN n
theorem c2(h:Chg a b bs):Chg a b.drew bs:=h.drew
theorem c3(h:Chg a b bs)(o:Obj):Chg a (b.alloc o) bs:=h.alloc o
theorem mr{f:FuncId}{as:Array Vl}{x:Ending}{p:Wl->Prop}{Q:Ending->Wl->Prop}(h:Cl P f as w fun e w'=>e=x/\p w')(k:∀w',p w'->Q x w'):Cl P f as w Q:=h.mono fun e w' j=>j.1▸k w' j.2
theorem c4(h:Chg a b bs)(p:Addr)(u:Vl)(c:p.block<a.heap.size->p.block∈bs):Chg a (b.setCell p u) bs:=h.setCell p u c
theorem _root_.zj(h:p:=by simp;omega):p:=h
theorem oq(h:Chg a b bs:=by(repeat(first|assumption|with_reducible refine c1 ?_ _|with_reducible refine c2 ?_|with_reducible refine c3 ?_ _|with_reducible refine c4 ?_ _ _ Zh|with_reducible refine c4 ?_ _ _ zj))):Chg a b bs:=h
theorem ot(h:Chg a b bs:=by(repeat(first|exact Chg.refl _ _|with_reducible refine c1 ?_ _|with_reducible refine c2 ?_|with_reducible refine c3 ?_ _|with_reducible refine c4 ?_ _ _ Zh|with_reducible refine c4 ?_ _ _ zj))):Chg a b bs:=h
theorem Chg.grown{row:Option Nat}(h:Chg a b bs)(d:b.grownBy c row)(m:b.drawn<=c.drawn)(l:∀k,row=nM k->k<a.heap.size->k∈bs):Chg a c bs:=
 h.step (cs:=row.toList) ⟨d.os,d.tape,d.output,d.size,fun k f j=>d.block k f fun e=>j (by simp[<-e])⟩
  (fun i g hi=>l i (by simpa using g) hi)
theorem Chg.cell(h:Chg a b bs){p:Addr}(d:p.block<a.heap.size)(c:p.block∉bs):b.cell? p=a.cell? p:=
 World.cell?_of_block (w:=a) (h.block p.block d c)
theorem Chg.keeps(h:Chg a b []){p:Addr}{v:Vl}(c:a.cell? p=nM v):b.cell? p=nM v:=
 (h.cell (World.block_lt_of_cell? a _ c) Zh).trans c
theorem Chg.frozen(h:Chg a b bs){p:Addr}(d:p.block<a.heap.size)(c:p.block∉bs):b.frozen? p=a.frozen? p:=
 World.frozen?_of_block (w:=a) (h.block p.block d c)
def Ac(w:Wl)(b:Nat)(cs:List Vl)(T:Ti):Prop:=w.heap[b]? =nM (nC cs.toArray T (0,0))
theorem Ac.eq{b:Nat}{ds:List Vl}(h:Ac w b cs T)(e:cs=ds):Ac w b ds T:=e▸h
theorem Ac.lt{b:Nat}(h:Ac w b cs T):b<w.heap.size:=(Array.getElem?_eq_some_iff.1 h).1
theorem Ac.cell{b:Nat}(h:Ac w b cs T)(j:Nat):w.cell? ⟨b,j,nN⟩=cs[j]? :=by
 unfold Ac at h;simp[World.cell?,h]
theorem Ac.frozen{b:Nat}(h:Ac w b cs T)(j:Nat):w.frozen? ⟨b,j,nN⟩=false:=by
 unfold Ac at h;simp[World.frozen?,h]
theorem Ac.cells1{b:Nat}{a:Vl}(h:Ac w b [a] T):b<w.heap.size/\(∀j,w.frozen? ⟨b,j,nN⟩=false)/\w.cell? ⟨b,0,nN⟩=nM a:=
 ⟨h.lt,fun j=>h.frozen j,h.cell 0⟩
theorem Ac.cells6{b:Nat}{a c d e f g:Vl}(h:Ac w b [a,c,d,e,f,g] T):b<w.heap.size/\(∀j,w.frozen? ⟨b,j,nN⟩=false)/\w.cell? ⟨b,0,nN⟩=nM a/\
  w.cell? ⟨b,1,nN⟩=nM c/\w.cell? ⟨b,2,nN⟩=nM d/\w.cell? ⟨b,3,nN⟩=nM e/\w.cell? ⟨b,4,nN⟩=nM f/\w.cell? ⟨b,5,nN⟩=nM g:=
 ⟨h.lt,fun j=>h.frozen j,h.cell 0,h.cell 1,h.cell 2,h.cell 3,h.cell 4,h.cell 5⟩
theorem Ac.kept{w':Wl}{b:Nat}(h:Ac w b cs T)(a:Chg w w' bs)(c:b∉bs:=by simp):Ac w' b cs T:=
 (a.block b h.lt c).trans h
theorem Ac.alloc{b:Nat}(h:Ac w b cs T)(o:Obj):Ac (w.alloc o) b cs T:=
 (Below.heap_alloc w o b h.lt).trans h
theorem Ac.new(w:Wl)(cs:List Vl)(T:Ti):Ac (w.alloc (nC cs.toArray T)) w.heap.size cs T:=heap_alloc_new w _
theorem Ac.drew{b:Nat}(h:Ac w b cs T):Ac w.drew b cs T:=h
theorem Ac.drewN{b:Nat}(h:Ac w b cs T)(n:Nat):Ac (w.drewN n) b cs T:=h
theorem Ac.set{b:Nat}(h:Ac w b cs T)(j:Nat)(v:Vl):Ac (w.setCell ⟨b,j,nN⟩ v) b (cs.set j v) T:=by
 unfold Ac at*;simp only[World.setCell,Array.getElem?_modify,h];simp
theorem Ac.set_other{b:Nat}(h:Ac w b cs T)(a:Addr)(v:Vl)(c:a.block≠b):Ac (w.setCell a v) b cs T:=
 (Below.heap_setCell w a v b (fun e=>c e.symm)).trans h
theorem Bo{a b:Bool}(h:a=b):Ending.returned (.bool a)= nR (.bool b):=by rw[h]
theorem E5{k:IntKind}{a b:Int}(h:a=b):Ending.returned (nI k a)= nR (nI k b):=by rw[h]
theorem TM{a b:BY}(h:a=b):Ending.returned (nG a)= nR (nG b):=by rw[h]
theorem CN{b:Func}{t u v x:Tmp}(h:b.results=#[.tmp t,.tmp u,.tmp v,.tmp x])(a:Array Vl)(P:Program)(w:Wl):
  (results b a).run P w= .ok (nT #[a.getD t undef,a.getD u undef,a.getD v undef,a.getD x undef]) w:=by
 simp[results,h]
theorem rU{b:Nat}(h:Ac w b cs T:=by(apply Ac.eq;(·(repeat(first|assumption|with_reducible apply Ac.drewN|with_reducible apply Ac.drew|with_reducible apply Ac.alloc|with_reducible apply Ac.set|(with_reducible apply Ac.set_other;rotate_left;(.first|(simp;done)|(simp;omega))))));rfl)):Ac w b cs T:=h
theorem Yb(h:p:=by kernel_rfl):p:=h
theorem UD(p:Prop)(h:p):RowKit.Hid p:=h
abbrev OS(P:Program)(v:Vl)(a b:Nat)(r:Array Vl):Prop:=∀w,(Instr.typeAssert v a b true).run P w=.ok (nT r) w
structure AB(w w':Wl)(bs:List Nat):Prop extends Chg w w' bs where
 drawn:w.drawn<=w'.drawn
instance {w w':Wl} {bs:List Nat}:Coe (AB w w' bs) (Chg w w' bs):=⟨AB.toChg⟩
theorem AB.refl(w:Wl)(bs:List Nat):AB w w bs:=⟨Chg.refl w bs,Q8 _⟩
theorem AB.trans(h:AB a b bs)(k:AB b c bs):AB a c bs:=⟨Chg.trans h.toChg k.toChg,Q7 h.drawn k.drawn⟩
theorem AB.mono{cs:List Nat}(h:AB a b bs)(c:∀k,k<a.heap.size->k∈bs->k∈cs):AB a b cs:=⟨Chg.mono h.toChg c,h.drawn⟩
theorem AB.none(h:AB a b [])(cs:List Nat):AB a b cs:=h.mono fun _ _ c=>by cases c
theorem AB.step{cs:List Nat}(h:AB a b bs)(k:AB b c cs)(d:∀i,i∈cs->i<a.heap.size->i∈bs):AB a c bs:=⟨Chg.step h.toChg k.toChg d,Q7 h.drawn k.drawn⟩
theorem AB.fresh{cs:List Nat}(h:AB a b bs)(k:AB b c cs)(d:∀i,i∈cs->a.heap.size<=i):AB a c bs:=⟨Chg.fresh h.toChg k.toChg d,Q7 h.drawn k.drawn⟩
theorem AB.alloc(h:AB a b bs)(o:Obj):AB a (b.alloc o) bs:=⟨Chg.alloc h.toChg o,h.drawn⟩
theorem AB.setCell(h:AB a b bs)(p:Addr)(u:Vl)(c:p.block<a.heap.size->p.block∈bs):AB a (b.setCell p u) bs:=⟨Chg.setCell h.toChg p u c,h.drawn⟩
theorem AB.drew(h:AB a b bs):AB a b.drew bs:=⟨Chg.drew h.toChg,Q7 h.drawn (Nat.le_succ _)⟩
theorem AB.drewN(h:AB a b bs)(n:Nat):AB a (b.drewN n) bs:=⟨Chg.drewN h.toChg n,Q7 h.drawn (Nat.le_add_right _ _)⟩
structure Xd(c b:Wl):Prop where
 h:∀a bs,AB a c bs->AB a b bs
instance xd0 (c:Wl):Nonempty (Xd c c):=⟨⟨fun _ _ h=>h⟩⟩
instance xd1 (c b:Wl) (o:Obj) [h:Nonempty (Xd c b)]:Nonempty (Xd c (b.alloc o)):=⟨⟨fun a bs k=>(h.elim fun x=>x.h a bs k).alloc o⟩⟩
instance xd2 (c b:Wl) [h:Nonempty (Xd c b)]:Nonempty (Xd c b.drew):=⟨⟨fun a bs k=>(h.elim fun x=>x.h a bs k).drew⟩⟩
instance xd3 (c b:Wl) (n:Nat) [h:Nonempty (Xd c b)]:Nonempty (Xd c (b.drewN n)):=⟨⟨fun a bs k=>(h.elim fun x=>x.h a bs k).drewN n⟩⟩
theorem cd(k:AB a c bs)[h:Nonempty (Xd c b)]:AB a b bs:=h.elim fun x=>x.h a bs k
theorem rT(h:AB a b bs:=by(repeat(first|assumption|with_reducible refine AB.drewN ?_ _|with_reducible refine AB.drew ?_|with_reducible refine AB.alloc ?_ _|with_reducible refine AB.setCell ?_ _ _ Zh|with_reducible refine AB.setCell ?_ _ _ zj))):AB a b bs:=h
theorem OW(s:BY)(cap i:Nat)(h:i<s.size):(bytesRow s cap)[i]? =nM (nI .u8 (Utf.Aj s i)):=by
 unfold bytesRow;rw[Utf.BV h,Array.getElem?_append_left (by simpa using h)];simp[h];rfl
theorem GJ(w:Wl)(c b e:Ti)(s:BY)(g:P.underlying c=nM .string)(d:P.underlying b=nM (.slice e))(f:P.underlying e=nM (.int .u8)):
  ∃(cap:Nat) (a:Wl),(convert c b (nG s)).run P w= .ok (nS (nM ⟨w.heap.size,0,nN⟩) s.size cap) a/\s.size<=cap/\AB w a []/\a.heap.size=w.heap.size+1/\
   ∀i,i<s.size->a.cell? ⟨w.heap.size,i,nN⟩=nM (nI .u8 (Utf.Aj s i)):=by
 refine⟨_,_,run_bytes_of_string w c b e s g d f,grownCap_ge _ _ _ _,(AB.refl w []).drew.alloc _,Zh,fun i hi=> ?_⟩;show(w.drew.alloc _).cell? ⟨w.drew.heap.size,i,nN⟩=_
 rw[World.cell?_alloc_mark];exact OW s _ i hi
def Es(a:Array Oper)(i:Nat):Option Tmp:=(a[i]?).bind (·.dst)
def bC(b:Array Oper)(a:Act)(i:Nat):Vl:=match Es b i with|some t=>a.tmps.getD t undef|none=>undef
def My(a:Array Oper)(n:Nat):Bool:=
 (List.range a.size).all fun i=>match a[i]? with
  |some o=>(o.after.all fun e=>decide (e.on<i))&&(match o.dst with|some t=>decide (t<n)&&(List.range a.size).all fun j=>decide (j=i)||decide (Es a j≠nM t)|none=>true)
  |none=>true
theorem My.at{a:Array Oper}{n:Nat}(h:My a n=true){i:Nat}{o:Oper}(f:a[i]? =nM o):
  (∀e∈o.after,e.on<i)/\(∀t,o.dst=nM t->t<n/\∀j,j≠i->j<a.size->Es a j≠nM t):=by
 have hi:i<a.size:=(Array.getElem?_eq_some_iff.1 f).1;have b:=List.all_eq_true.1 h i (List.mem_range.2 hi);rw[f]at b;simp only[Bool.and_eq_true]at b;refine⟨fun e g=>by simpa using Array.all_eq_true_iff_forall_mem.1 b.1 e (by simpa using g),fun t m=> ?_⟩;have c:=b.2;rw[m]at c;simp only[Bool.and_eq_true,decide_eq_true_eq]at c;refine⟨c.1,fun j k l=> ?_⟩;have d:=List.all_eq_true.1 c.2 j (List.mem_range.2 l);simp only[Bool.or_eq_true,decide_eq_true_eq]at d;exact d.resolve_left k
structure Fr(ops:Array Oper)(base a:Act):Prop where
 defers:a.defers=base.defers
 size:a.tmps.size=base.tmps.size
 same:∀t,(∀j,j<ops.size->Es ops j≠nM t)->a.tmps.getD t undef=base.tmps.getD t undef
def Zt(a:Array Oper)(t:Tmp):Bool:=(List.range a.size).all fun j=>decide (Es a j≠nM t)
abbrev rS(a:Act)(i:Nat):Vl:=a.tmps.getD i undef
theorem Fr.at{b:Array Oper}{base a:Act}(h:Fr b base a)(t:Tmp)(c:Zt b t=true):a.tmps.getD t undef=base.tmps.getD t undef:=
 h.same t fun j d=>by simpa using List.all_eq_true.1 c j (List.mem_range.2 d)
theorem Fr.refl(b:Array Oper)(a:Act):Fr b a a:=⟨rfl,rfl,fun _ _=>rfl⟩
theorem ML(a:Act)(d:Option Tmp)(v:Vl):(a.put d v).tmps.size=a.tmps.size:=by cases d<;>simp[Act.put]
theorem Jo(a:Act)(d:Option Tmp)(v:Vl):(a.put d v).defers=a.defers:=by cases d<;>rfl
theorem Gm(a:Act)(d:Option Tmp)(v:Vl)(t:Tmp)(h:d≠nM t):(a.put d v).tmps.getD t undef=a.tmps.getD t undef:=by
 cases d with
 |none=>rfl
 |some d=>
  have b:d≠t:=fun e=>h (by rw[e]);simp[Act.put,Qp,Array.getElem?_setIfInBounds,b]
theorem RQ(a:Act)(t:Tmp)(v:Vl)(h:t<a.tmps.size):(a.put (nM t) v).tmps.getD t undef=v:=by
 simp[Act.put,Qp,Array.getElem?_setIfInBounds,h]
theorem Ia{c:Type}(l:List c)(p q:c->Bool)(h:∀x∈l,q x=true->p x=true)(x:c)(a:x∈l)(g:p x=true)(i:q x=false):(l.filter q).length<(l.filter p).length:=by
 induction l with
 |nil=>cases a
 |cons y l e=>
  have r:(l.filter q).length<=(l.filter p).length:=by
   clear e a;induction l with
   |nil=>simp
   |cons z l o=>
    have f:∀x∈y::l,q x=true->p x=true:=fun x a=>h x (by simp only[Qh]at a|-;rcases a with d|d<;>simp[d]);have:=o f;have b:=h z Zh;rw[List.filter_cons,List.filter_cons];cases k:q z
    .cases t:p z<;>simp<;>omega
    .rw[b k];simp;omega
  rw[List.filter_cons,List.filter_cons];rcases Qh.1 a with rfl|m
  .rw[g,i];simp;omega
  .have:=e (fun z b=>h z (Qg _ b)) m;have n:=h y Zh;cases j:q y
   .cases s:p y<;>simp<;>omega
   .rw[n j];simp;omega
def Dt(b:Array Oper)(a:Array Bool):Nat:=((List.range b.size).filter fun i=> !a.getD i true).length
theorem DF(l:Array Bool)(i j:Nat)(d:Bool):(l.setIfInBounds i true).getD j d=if i=j then(if i<l.size then true else d)else l.getD j d:=by
 simp only[Qp,Array.getElem?_setIfInBounds];by_cases h:i=j
 .subst h;by_cases a:i<l.size<;>simp[a]
 .simp[h]
section
variable {P:Program} {ops:Array Oper} {Q:Exit->Act->Wl->Prop} {md:Region.Mode}
end
variable{a base:Act}{b:Array Oper}{i:Nat}{o:Oper}
def Eb(f:Nat->Vl)(i:Nat)(v:Vl):Nat->Vl:=fun k=>if k=i then v else f k
theorem Bf(f:Nat->Vl)(i:Nat)(v:Vl):Eb f i v i=v:=Qr rfl
theorem AA(f:Nat->Vl){k:Nat}(v:Vl)(h:k≠i):Eb f i v k=f k:=Qs h
def Jd(a:Array Oper):List Tmp:=(List.range a.size).filterMap fun i=>Es a i
theorem IY:∀(l:List Tmp) (g:Tmp->Vl) (t:Array Vl),(l.foldl (fun t k=>t.setIfInBounds k (g k)) t).size=t.size
 |[],_,_=>rfl
 |k::l,g,t=>by rw[List.foldl_cons,IY l g];simp
theorem JI(g:Tmp->Vl)(k:Tmp):∀(l:List Tmp) (t:Array Vl),k<t.size->(l.foldl (fun t k=>t.setIfInBounds k (g k)) t).getD k undef=if k∈l then g k else t.getD k undef
 |[],t,_=>Zh
 |x::l,t,b=>by
  rw[List.foldl_cons,JI g k l _ (by simpa using b)];by_cases h:k∈l
  .rw[Qr h,Qr (Qg _ h)]
  .rw[Qs h];by_cases a:k=x
   .subst a;rw[Qr (List.mem_cons_self ..)];simp[Qp,b]
   .rw[Qs (by simp[a,h])];have c:x≠k:=fun e=>a e.symm;simp[Qp,Array.getElem?_setIfInBounds,c]
theorem Fr.form(h:Fr b base a):a.tmps=(Jd b).foldl (fun t k=>t.setIfInBounds k (a.tmps.getD k undef)) base.tmps:=by
 have o:=IY (Jd b) (fun k=>a.tmps.getD k undef) base.tmps;refine Array.ext (by rw[o,h.size]) fun k d g=> ?_;have n:k<base.tmps.size:=by rw[<-h.size];exact d
 have i:=JI (fun k=>a.tmps.getD k undef) k (Jd b) base.tmps n;have e:a.tmps.getD k undef=a.tmps[k]:=by simp[Qp,d]
 have f:((Jd b).foldl (fun t k=>t.setIfInBounds k (a.tmps.getD k undef)) base.tmps).getD k undef=((Jd b).foldl (fun t k=>t.setIfInBounds k (a.tmps.getD k undef)) base.tmps)[k]:=by rw[Qp,Array.getElem?_eq_getElem g];rfl
 rw[<-e,<-f,i];by_cases c:k∈Jd b
 .rw[Qr c]
 .rw[Qs c];exact h.same k fun j m l=>c (List.mem_filterMap.2 ⟨j,List.mem_range.2 m,l⟩)
theorem Fr.form'(h:Fr b base a)(ds:List Tmp)(c:Jd b=ds):a.tmps=ds.foldl (fun t k=>t.setIfInBounds k (a.tmps.getD k undef)) base.tmps:=c▸h.form
theorem Fr.fin(h:Fr b base a)(ds:List Tmp)(g:Jd b=ds):∃f:Nat->Vl,(∀d,a.tmps.getD d undef=f d)/\a=⟨ds.foldl (fun t k=>t.setIfInBounds k (f k)) base.tmps,base.defers⟩:=by
 refine⟨fun d=>a.tmps.getD d undef,fun _=>rfl, ?_⟩;have c:=h.form' ds g;have e:=h.defers;obtain⟨j,i⟩:=a;exact congr (congrArg Act.mk c) e
theorem Fr.fin2(h:Fr b base a)(ds:List Tmp)(i:Jd b=ds){T:(Nat->Vl)->List Vl}(g:∀f:Nat->Vl,ds.foldl (fun t k=>t.setIfInBounds k (f k)) base.tmps=(T f).toArray:=by intro f;simp only[List.foldl_cons,List.foldl_nil,List.setIfInBounds_toArray,List.set_cons_zero,List.set_cons_succ];rfl):∃f:Nat->Vl,(∀d,a.tmps.getD d undef=f d)/\a=⟨(T f).toArray,base.defers⟩:=by
 obtain⟨f,c,e⟩:=h.fin ds i;exact⟨f,c,by rw[e,g]⟩
def Fm(b:Region.Mode)(a:Array Oper)(n:Nat):Bool:=
 (List.range a.size).all fun i=>match a[i]? with
  |some o=>(o.after.all fun e=> !Region.binds b e||decide (e.on<i))&&(match o.dst with|some t=>decide (t<n)&&(List.range a.size).all fun j=>decide (j=i)||decide (Es a j≠nM t)|none=>true)
  |none=>true
theorem Fm.at{g:Region.Mode}{n:Nat}(h:Fm g b n=true)(f:b[i]? =nM o):
  (∀e∈o.after,Region.binds g e=true->e.on<i)/\(∀t,o.dst=nM t->t<n/\∀j,j≠i->j<b.size->Es b j≠nM t):=by
 have hi:i<b.size:=(Array.getElem?_eq_some_iff.1 f).1;have c:=List.all_eq_true.1 h i (List.mem_range.2 hi);rw[f]at c;simp only[Bool.and_eq_true]at c;refine⟨fun e l k=> ?_,fun t q=> ?_⟩
 .have a:=Array.all_eq_true_iff_forall_mem.1 c.1 e l;rw[k]at a;simpa using a
 have d:=c.2;rw[q]at d;simp only[Bool.and_eq_true,decide_eq_true_eq]at d;refine⟨d.1,fun j m p=> ?_⟩;have a:=List.all_eq_true.1 d.2 j (List.mem_range.2 p);simp only[Bool.or_eq_true,decide_eq_true_eq]at a;exact a.resolve_left m
theorem OO{m:Region.Mode}{v:Vl}(d:b[i]? =nM o)(g:Fm m b a.tmps.size=true)(l:o.dst=nN->v=undef):bC b (a.put o.dst v)=Eb (bC b a) i v:=by
 funext j;have n:i<b.size:=(Array.getElem?_eq_some_iff.1 d).1;by_cases h:j=i
 .subst h;rw[Bf];unfold bC Es;rw[d];simp only[Option.bind_some];cases c:o.dst with
  |none=>exact(l c).symm
  |some t=>
   simp only;exact RQ _ _ _ ((Fm.at g d).2 t c).1
 .rw[AA _ _ h];unfold bC;cases c:Es b j with
  |none=>rfl
  |some t=>
   simp only;refine Gm _ _ _ _ fun e=> ?_
   have k:j<b.size:=by
    unfold Es at c;cases f:b[j]? with
    |none=>rw[f]at c;cases c
    |some p=>exact(Array.getElem?_eq_some_iff.1 f).1
   exact((Fm.at g d).2 t e).2 j h k c
section
variable {P:Program} {ops:Array Oper} {Q:Exit->Act->Wl->Prop} {md:Region.Mode}
end
def BA(d:Nat->Bool)(i:Nat):Nat->Bool:=fun k=>if k=i then true else d k
theorem BG(d:Nat->Bool)(i:Nat):BA d i i=true:=Qr rfl
theorem An(d:Nat->Bool){i k:Nat}(h:k≠i):BA d i k=d k:=Qs h
section
variable {P:Program} {ops:Array Oper} {Q:Exit->Act->Wl->Prop} {md:Region.Mode}
theorem Gy(base:Act)(g:(Nat->Bool)->(Nat->Vl)->Wl->Prop)(G:Fm md ops base.tmps.size=true)(ab:∀i o a w d,ops[i]? =nM o->Fr ops base a->d i=false->(∀e∈o.after,Region.binds md e=true->d e.on=true)->g d (bC ops a) w->
   ∀K:Act->Wl->Prop,(∀v w',(o.dst=nN->v=undef)->g (BA d i) (Eb (bC ops a) i v) w'->K (a.put o.dst v) w')->if Region.wanted o (yielded ops a.tmps)=true then Oper.wp P o a w K Q else K (a.put o.dst undef) w)(A:∀a w d,Fr ops base a->(∀i,i<ops.size->d i=true)->g d (bC ops a) w->Q .normal a w)(w:Wl)(X:g (fun _=>false) (bC ops base) w):
  wpAny P md ops Q ops.size (Array.replicate ops.size false) base w:=by
 have aa:∀(j:Nat) (b:Array Bool) (a:Act) (w:Wl),b.size=ops.size->Dt ops b<=j->Fr ops base a->g (fun i=>b.getD i false) (bC ops a) w->
   wpAny P md ops Q j b a w:=by
  intro j;induction j with
  |zero=>
   intro b a w H D c l
   have C:∀i,i<ops.size->b.getD i true=true:=by
    intro i hi;cases m:b.getD i true with
    |true=>rfl
    |false=>
     have:i∈(List.range ops.size).filter fun i=> !b.getD i true:=List.mem_filter.2 ⟨List.mem_range.2 hi,by simp only[m];rfl⟩;have h2:=List.length_pos_of_mem this;unfold Dt at D;omega
   refine wpAny_done ?_ (A a w _ c (fun i hi=> ?_) l) 0
   .unfold Region.ready;rw[List.filter_eq_nil_iff];intro i hi;rw[C i (List.mem_range.1 hi)];simp
   .have:=C i hi;rw[Qp,Array.getElem?_eq_getElem Zj]at this|-;exact this
  |succ j Y=>
   intro b a w H D c l;by_cases y:Region.ready md ops b=[]
   .refine wpAny_done y (A a w _ c (fun i hi=> ?_) l) _;suffices h:∀k,k<=ops.size->∀i,i<k->b.getD i false=true from h ops.size (Q8 _) i hi
    intro k;induction k with
    |zero=>intro _ i hi;omega
    |succ k Z=>
     intro hk i s;have E:=Z Zj;by_cases T:i<k
     .exact E i T
     .have:i=k:=by omega
      subst this;cases m:b.getD i false with
      |true=>rfl
      |false=>
       exfalso
       have F:i∈Region.ready md ops b:=by
        unfold Region.ready;refine List.mem_filter.2 ⟨List.mem_range.2 Zj, ?_⟩;have f:ops[i]? =nM ops[i]:=Array.getElem?_eq_getElem Zj
        have N:b.getD i true=false:=by
         rw[Qp,Array.getElem?_eq_getElem Zj]at m|-;exact m
        rw[N,f];simp only[Bool.not_false,Bool.true_and,Option.map_some,Option.getD_some];rw[Array.all_eq_true_iff_forall_mem];intro e r;cases q:Region.binds md e with
        |false=>rfl
        |true=>
         have:=(Fm.at G f).1 e r q;rw[E e.on this];rfl
       rw[y]at F;cases F
   .refine wpAny_all rfl y fun i hi=> ?_;have s:=List.mem_filter.1 hi;have u:i<ops.size:=List.mem_range.1 s.1;have f:ops[i]? =nM ops[i]:=Array.getElem?_eq_getElem u;obtain⟨U,p⟩:=Bool.and_eq_true_iff.1 s.2;have z:b.getD i true=false:=by simpa using U
    rw[f]at p;simp only[Option.map_some,Option.getD_some]at p
    have R:∀e∈ops[i].after,Region.binds md e=true->b.getD e.on false=true:=fun e r q=>by
     have B:=Array.all_eq_true_iff_forall_mem.1 p e r;rw[q]at B;simpa using B
    have V:b.getD i false=false:=by
     rw[Qp,Array.getElem?_eq_getElem Zj]at z|-;exact z
    refine wpOp_step f fun K M=>ab i ops[i] a w (fun i=>b.getD i false) f c V R l K fun v w' W L=>M _ _ ?_;have S:bC ops (a.put ops[i].dst v)=Eb (bC ops a) i v:=OO f (by rw[c.size];exact G) W
    have O:(fun k=>(b.setIfInBounds i true).getD k false)=BA (fun i=>b.getD i false) i:=by
     funext k;rw[DF];unfold BA;by_cases h:i=k
     .subst h;rw[Qr rfl,Qr Zj,Qr rfl]
     .rw[Qs h,Qs (fun e=>h e.symm)]
    refine Y _ _ _ (by simp[H]) ?_ ?_ (by rw[S,O];exact L)
    .have:Dt ops (b.setIfInBounds i true)<Dt ops b:=by
      unfold Dt;refine Ia _ _ _ (fun x hx n=> ?_) i (List.mem_range.2 u) (by rw[z];rfl) ?_
      .rw[DF]at n;by_cases h:i=x
       .rw[Qr h,Qr Zj]at n;simp at n
       .rwa[Qs h]at n
      .rw[DF,Qr rfl,Qr Zj];rfl
     omega
    .refine⟨by rw[Jo,c.defers],by rw[ML,c.size],fun t I=> ?_⟩;rw[Gm _ _ _ _ (by have:=I i u;unfold Es at this;rw[f]at this;exact this),c.same t I]
 have J:(fun i=>(Array.replicate ops.size false).getD i false)=fun _=>false:=by
  funext i;rw[Qp,Array.getElem?_replicate];split<;>rfl
 refine aa _ _ _ _ Zh ?_ (Fr.refl _ _) (by rw[J];exact X);unfold Dt;exact Q7 (List.length_filter_le _ _) Zh
end
def ZX(a:Region.Mode)(b:Array Oper)(d:Nat->Bool):Prop:=∀j o,b[j]? =nM o->d j=true->∀e∈o.after,Region.binds a e=true->d e.on=true
section
variable {P:Program} {ops:Array Oper} {Q:Exit->Act->Wl->Prop} {md:Region.Mode}
theorem Dg(base:Act)(b:(Nat->Bool)->(Nat->Vl)->Wl->Prop)(z:Fm md ops base.tmps.size=true)(E:∀i o a w d,ops[i]? =nM o->Fr ops base a->d i=false->(∀e∈o.after,Region.binds md e=true->d e.on=true)->ZX md ops d->b d (bC ops a) w->
   ∀K:Act->Wl->Prop,(∀v w',(o.dst=nN->v=undef)->b (BA d i) (Eb (bC ops a) i v) w'->K (a.put o.dst v) w')->if Region.wanted o (yielded ops a.tmps)=true then Oper.wp P o a w K Q else K (a.put o.dst undef) w)(q:∀a w d,Fr ops base a->(∀i,i<ops.size->d i=true)->b d (bC ops a) w->Q .normal a w)(w:Wl)(C:b (fun _=>false) (bC ops base) w):
  wpAny P md ops Q ops.size (Array.replicate ops.size false) base w:=by
 refine Gy base (fun d f w=>b d f w/\ZX md ops d) z ?_ (fun a w d r s t=>q a w d r s t.1) w ⟨C,fun _ _ _ e=>by cases e⟩;intro i o a w d n u A p g K y;refine E i o a w d n u A p g.2 g.1 K fun v w' B x=>y v w' B ⟨x, ?_⟩;intro j D c h e l k;unfold BA at h|-;split
 .rfl
 .by_cases m:j=i
  .subst m;rw[n]at c;injection c with c
   subst c;exact p e l k
  .rw[Qs m]at h;exact g.2 j D c h e l k
end
structure DC(S:List Nat)(V:Nat->Vl->Prop)(P:Nat->Vl->Wl->Prop)(d:Nat->Bool)(f:Nat->Vl)(w:Wl):Prop where
 ph:∃n,n<=S.length/\(∀i j,S[i]? =nM j->d j=decide (i<n))/\P n (f (S.getD (n-1) 0)) w
 vals:∀j,j∉S->d j=true->V j (f j)
section
variable{j n:Nat}{v:Vl}
variable {S:List Nat} {V:Nat->Vl->Prop} {P:Nat->Vl->Wl->Prop} {d:Nat->Bool} {f:Nat->Vl} {w w':Wl}
theorem DC.start(h:P 0 (f (S.getD 0 0)) w):DC S V P (fun _=>false) f w:=
 ⟨⟨0,Nat.zero_le _,fun i j _=>Zh,h⟩,fun j _ e=>by cases e⟩
theorem QN{S:List Nat}(d:n<=S.length)(b:S≠[]):S.getD (n-1) 0∈S:=by
 have c:0<S.length:=List.length_pos_iff.2 b;have a:n-1<S.length:=Zj;rw[List.getD_eq_getElem?_getD,Q9 a];exact List.getElem_mem a
theorem DC.read(h:DC S V P d f w)(o:S≠[])(g:j∉S)(p:V j v):DC S V P (BA d j) (Eb f j v) w:=by
 obtain⟨n,b,l,m⟩:=h.ph;refine⟨⟨n,b,fun i k a=> ?_, ?_⟩,fun k a c=> ?_⟩
 .have:k≠j:=fun e=>g (e▸Qi a);rw[An d this];exact l i k a
 .have:S.getD (n-1) 0≠j:=fun e=>g (e▸QN b o);rw[AA f v this];exact m
 .by_cases e:k=j
  .subst e;rw[Bf];exact p
  .rw[AA f v e];rw[An d e]at c;exact h.vals k a c
theorem DC.spot(h:DC S V P d f w)(q:S[n]? =nM j)(p:d j=false)(r:n=0\/∃i,S[n-1]? =nM i/\d i=true):
  (∀i j,S[i]? =nM j->d j=decide (i<n))/\P n (f (S.getD (n-1) 0)) w:=by
 obtain⟨m,s,a,l⟩:=h.ph;have b:=a n j q;rw[p]at b;have t:¬n<m:=fun e=>by rw[decide_eq_true e]at b;cases b
 have o:m=n:=by
  rcases r with rfl|⟨i,g,k⟩
  .omega
  .have c:=a _ i g;rw[k]at c;have u:=of_decide_eq_true c.symm;omega
 subst o;exact⟨a,l⟩
theorem DC.at(h:DC S V P d f w)(b:S[n]? =nM j)(a:d j=false)(c:n=0\/∃i,S[n-1]? =nM i/\d i=true):P n (f (S.getD (n-1) 0)) w:=
 (h.spot b a c).2
theorem DC.next(h:DC S V P d f w)(b:S[n]? =nM j)(s:d j=false)(x:n=0\/∃i,S[n-1]? =nM i/\d i=true)(u:S.Nodup)(r:P (n+1) v w'):DC S V P (BA d j) (Eb f j v) w':=by
 obtain⟨q,_⟩:=h.spot b s x;have t:n<S.length:=(Qc.1 b).1;refine⟨⟨n+1,t,fun i k a=> ?_, ?_⟩,fun k a l=> ?_⟩
 .by_cases e:i=n
  .subst e;rw[b]at a;obtain rfl:=Q5 a;rw[BG];simp
  .have c:k≠j:=fun g=>by
    subst g;obtain⟨y,o⟩:=Qc.1 a;obtain⟨z,p⟩:=Qc.1 b;exact e ((List.getElem_inj u).1 (o.trans p.symm))
   rw[An d c,q i k a];by_cases m:i<n
   .rw[decide_eq_true m,decide_eq_true Zj]
   .rw[decide_eq_false m,decide_eq_false Zj]
 .rw[show n+1-1=n from rfl,List.getD_eq_getElem?_getD,b,Option.getD_some,Bf];exact r
 .have c:k≠j:=fun g=>a (g▸Qi b);rw[AA f v c];rw[An d c]at l;exact h.vals k a l
theorem DC.low(h:DC S V P d f w)(i:S[n]? =nM j)(g:d j=false):∃m v,m<=n/\P m v w:=by
 obtain⟨m,k,b,c⟩:=h.ph;have a:=b n j i;rw[g]at a;exact⟨m,_,Nat.le_of_not_lt (fun e=>by rw[decide_eq_true e]at a;cases a),c⟩
theorem DC.any(h:DC S V P d f w):∃m v,m<=S.length/\P m v w:=by
 obtain⟨m,a,c,b⟩:=h.ph;exact⟨m,_,a,b⟩
theorem DC.fin(h:DC S V P d f w)(o:S.length=n+1)(c:S[n]? =nM j)(i:d j=true):P (n+1) (f j) w:=by
 obtain⟨m,k,e,a⟩:=h.ph;have b:=e n j c;rw[i]at b;have l:=of_decide_eq_true b.symm;have g:m=n+1:=Zj;subst g;rw[show n+1-1=n from rfl,List.getD_eq_getElem?_getD,c,Option.getD_some]at a;exact a
end
end
end Go.Proofs.YtamgbmcchhmojaaGreatDoor
namespace Ptr
open Go renaming Calls->Cl,TypeId->Ti,Value->Vl,World->Wl
open Go.Value renaming int->nI,slice->nS,string->nG,tuple->nT
open Go.Ending renaming returned->nR
open Go.Obj renaming cells->nC
open Option renaming none->nN,some->nM
section
open Utf
variable{s:BY}{ts:List BY}{p:Prop}
def Sk(a:Option (Nat×Nat))(c:UInt8):Option (Nat×Nat):=
 match a with
 |none=>none
 |some (0,_)=>if AV c.toNat=0 then none else if AV c.toNat=1 then some (0,0)else some (1,c.toNat)
 |some (m+1,h)=>if EL h (m+1) c.toNat=true then(if m+2=AV h then some (0,0)else some (m+2,h))else none
def Fw(a:Option (Nat×Nat))(l:List UInt8):Option (Nat×Nat):=l.foldl Sk a
def CY(l:List UInt8):Bool:=match Fw (some (0,0)) l with
 |some (0,_)=>true
 |_=>false
theorem OC(l:List UInt8):Fw none l=none:=by
 induction l with
 |nil=>rfl
 |cons c l a=>exact a
theorem Li(c:Option (Nat×Nat))(a b:List UInt8):Fw c (a++b)=Fw (Fw c a) b:=by
 unfold Fw;rw[List.foldl_append]
theorem Vv(s:BY)(k:Nat)(i:k<=s.size):match Fw (some (0,0)) (s.data.toList.take k)with
  |some (m,h)=>Inv s k m h
  |none=>Al s=false:=by
 induction k with
 |zero=>exact N6 s 0
 |succ k a=>
  have c:k<s.size:=Zj;have j:s.data.toList.length=s.size:=Array.length_toList
  have g:s.data.toList[k]? =some (s[k]'c):=by
   rw[Q9 Zj];rfl
  rw[List.take_add_one,g,Li];have a:=a Zj;have e:(s[k]'c).toNat=Aj s k:=(BV c).symm;cases f:Fw (some (0,0)) (s.data.toList.take k)with
  |none=>rw[f]at a;exact a
  |some p=>
   obtain⟨m,h⟩:=p;rw[f]at a;simp only[Option.toList_some,Fw,List.foldl_cons,List.foldl_nil];cases m with
   |zero=>
    simp only[Sk];rw[e];by_cases b:AV (Aj s k)=0
    .rw[Qr b];exact WI a c b
    .rw[Qs b];by_cases d:AV (Aj s k)=1
     .rw[Qr d];exact Uj a c d 0
     .rw[Qs d];exact QV a c Zj
   |succ m=>
    simp only[Sk];rw[e];have l:=QW a Zj;by_cases b:EL h (m+1) (Aj s k)=true
    .rw[Qr b];by_cases d:m+2=AV h
     .rw[Qr d];exact QU a Zj c d b 0
     .rw[Qs d];exact WH a Zj c Zj b
    .rw[Qs b];exact Ug a Zj c (by simpa using b)
theorem E8(s:BY):Al s=CY s.data.toList:=by
 have h:=Vv s s.size (Q8 _);rw[Qn (show s.data.toList.length<=s.size from Nat.le_of_eq Array.length_toList)]at h;unfold CY;cases a:Fw (some (0,0)) s.data.toList with
 |none=>rw[a]at h;exact h
 |some p=>
  obtain⟨m,g⟩:=p;rw[a]at h;cases m with
  |zero=>exact Ui h
  |succ m=>exact Uh h Zj
theorem Gt(a:Option (Nat×Nat))(c:UInt8)(b:c.toNat<128):Sk a c=(match a with|some (0,_)=>some (0,0)|_=>none):=by
 have d:AV c.toNat=1:=by unfold AV;rw[Qr b]
 match a with
 |none=>rfl
 |some (0,_)=>simp[Sk,d]
 |some (m+1,h)=>
  have:EL h (m+1) c.toNat=false:=by
   cases g:EL h (m+1) c.toNat with
   |false=>rfl
   |true=>
    unfold EL at g;split at g
    .have:=DP g;omega
    .unfold He at g;simp at g;omega
  simp[Sk,this]
theorem MX(a:Option (Nat×Nat))(c d:UInt8)(b:c.toNat<128)(e:d.toNat<128):Sk (Sk a c) d=Sk a c:=by
 rw[Gt _ d e,Gt _ c b];match a with
 |none=>rfl
 |some (0,_)=>rfl
 |some (m+1,h)=>rfl
theorem XR(a:Option (Nat×Nat))(c d:UInt8)(b:c.toNat<128)(e:d.toNat<128):Sk a c=Sk a d:=by
 rw[Gt _ d e,Gt _ c b]
theorem Jp(a b:List UInt8)(c:UInt8)(d:c.toNat<128):CY (a++c::b)=(CY a&&CY b):=by
 unfold CY;rw[Li];show(match Fw (Sk (Fw (some (0,0)) a) c) b with|some (0,_)=>true|_=>false)=_
 rw[Gt _ c d];cases Fw (some (0,0)) a with
 |none=>rw[OC];rfl
 |some p=>
  obtain⟨m,g⟩:=p;cases m with
  |zero=>simp
  |succ m=>simp only[OC];rfl
theorem EQ(b:List UInt8)(c:UInt8)(a:c.toNat<128):CY (c::b)=CY b:=by
 have:=Jp [] b c a;simpa[CY,Fw]using this
def A4:List UInt8->Bool
 |[]=>true
 |c::r=>(c !=126||r.head? ==some 48||r.head? ==some 49)&&A4 r
def Ct:List UInt8->List UInt8
 |[]=>[]
 |[c]=>[c]
 |c::d::r=>if c=126 then(if d=49 then 47 else 126)::Ct r else c::Ct (d::r)
def esc:List UInt8->List UInt8
 |[]=>[]
 |c::r=>(if c=126 then [126,48]else if c=47 then [126,49]else [c])++esc r
def Bc(c:UInt8):Bool:=c !=47
def CE:List UInt8->List (List UInt8)
  |[]=>[]
  |_::r=>Ct (r.takeWhile Bc)::CE (r.dropWhile Bc)
 termination_by l=>l.length
 decreasing_by simp;have:=(List.dropWhile_suffix (l:=r) Bc).sublist.length_le;omega
def Bl:List (List UInt8)->List UInt8
 |[]=>[]
 |t::l=>47::esc t++Bl l
def BH:List UInt8->Bool
 |[]=>true
 |c::_=>c==47
theorem C7(r:List UInt8):BH (r.dropWhile Bc)=true:=by
 induction r with
 |nil=>rfl
 |cons c r a=>
  rw[List.dropWhile_cons];split
  .exact a
  .rename_i h;simp[Bc]at h;simp[BH,h]
theorem GT(a b:List UInt8)(e:BH b=true)(h:A4 (a++b)=true):A4 a=true/\A4 b=true:=by
 induction a with
 |nil=>exact⟨rfl,h⟩
 |cons c a i=>
  simp only[Qo,A4,Bool.and_eq_true]at h|-;obtain⟨f,g⟩:=i h.2;refine⟨⟨?_,f⟩,g⟩;cases a with
  |cons d a=>exact h.1
  |nil=>
   have:=h.1;cases b with
   |nil=>simpa using this
   |cons d b=>
    simp[BH]at e;subst e;simpa using this
theorem Jk{d:UInt8}{r:List UInt8}(h:A4 (126::d::r)=true):d=48\/d=49:=by
 rw[A4,Bool.and_eq_true]at h;simpa using h.1
theorem WV{p:UInt8->Bool}{l:List UInt8}{x:UInt8}(h:x∈l.takeWhile p):p x=true:=by
 induction l with
 |nil=>cases h
 |cons c l b=>
  rw[List.takeWhile_cons]at h;split at h
  .rename_i a;rcases Qh.1 h with rfl|h
   .exact a
   .exact b h
  .cases h
theorem _root_.zg(h:p:=by simp only[A4,Bool.and_eq_true]at h|-;exact h.2):p:=h
theorem Ki:∀(p:List UInt8),A4 p=true->(∀c∈p,Bc c=true)->esc (Ct p)=p
 |[],_,_=>rfl
 |[c],h,b=>by
  have l:c≠126:=by intro e;subst e;simp[A4]at h
  have i:c≠47:=by have:=b c Zh;simpa[Bc]using this
  simp[Ct,esc,l,i]
 |c::d::r,h,b=>by
  have k:∀x∈d::r,Bc x=true:=fun x f=>b x (by simp[Qh]at f|-;exact .inr f);have i:c≠47:=by have:=b c Zh;simpa[Bc]using this
  by_cases j:c=126
  .subst j;have a:A4 (d::r)=true:=zg
   have n:A4 r=true:=by simp only[A4,Bool.and_eq_true]at a;exact a.2
   have m:d=48\/d=49:=Jk h;have g:=Ki r n fun x f=>k x (by simp[f]);simp only[Ct,if_true];rcases m with rfl|rfl
   .simp[esc,g]
   .simp[esc,g]
  .have a:A4 (d::r)=true:=zg
   have g:=Ki (d::r) a k;simp only[Ct,Qs j,esc,Qs i];rw[g];rfl
theorem _root_.zh(h:p:=by simp only[A4,Bool.and_eq_true]at b;exact b.2):p:=h
theorem MI:∀(l:List UInt8),BH l=true->A4 l=true->Bl (CE l)=l
  |[],_,_=>by simp[CE,Bl]
  |c::r,h,b=>by
   have g:c=47:=by simpa[BH]using h
   subst g;have i:A4 r=true:=zh
   have a:r.takeWhile Bc++r.dropWhile Bc=r:=List.takeWhile_append_dropWhile;obtain⟨d,e⟩:=GT (r.takeWhile Bc) (r.dropWhile Bc) (C7 r) (by rw[a];exact i);have f:=Ki _ d fun x j=>WV j;have k:=MI (r.dropWhile Bc) (C7 r) e;rw[CE,Bl,f,k,Qo,a]
 termination_by l=>l.length
 decreasing_by simp;have:=(List.dropWhile_suffix (l:=r) Bc).sublist.length_le;omega
theorem GV:∀(p:List UInt8) (a:Option (Nat×Nat)),A4 p=true->Fw a (Ct p)=Fw a p
 |[],_,_=>rfl
 |[_],_,_=>rfl
 |c::d::r,a,h=>by
  by_cases e:c=126
  .subst e;have b:A4 (d::r)=true:=zg
   have g:A4 r=true:=zh
   have f:d=48\/d=49:=Jk h;simp only[Ct,if_true];show Fw (Sk a _) (Ct r)=Fw (Sk (Sk a 126) d) r
   rw[GV r _ g];rcases f with rfl|rfl
   .rw[MX a 126 48 ZM ZM];rfl
   .rw[MX a 126 49 ZM ZM,Qr rfl,XR a 47 126 ZM ZM]
  .have b:A4 (d::r)=true:=zg
   simp only[Ct,Qs e];show Fw (Sk a c) (Ct (d::r))=Fw (Sk a c) (d::r)
   exact GV (d::r) _ b
theorem MQ:∀(l:List UInt8),BH l=true->A4 l=true->CY l=true->∀t∈CE l,CY t=true
  |[],_,_,_=>by simp[CE]
  |c::r,n,h,b=>by
   have k:c=47:=by simpa[BH]using n
   subst k;have o:A4 r=true:=by simp only[A4,Bool.and_eq_true]at h;exact h.2
   have a:r.takeWhile Bc++r.dropWhile Bc=r:=List.takeWhile_append_dropWhile;obtain⟨i,j⟩:=GT (r.takeWhile Bc) (r.dropWhile Bc) (C7 r) (by rw[a];exact o);rw[EQ _ _ ZM]at b
   have g:CY (r.takeWhile Bc)=true/\CY (r.dropWhile Bc)=true:=by
    cases f:r.dropWhile Bc with
    |nil=>rw[f,List.append_nil]at a;rw[a];exact⟨b,rfl⟩
    |cons d q=>
     have m:d=47:=by have:=C7 r;rw[f]at this;simpa[BH]using this
     subst m;rw[f]at a;rw[<-a,Jp _ _ _ ZM,Bool.and_eq_true]at b;exact⟨b.1,by rw[EQ _ _ ZM];exact b.2⟩
   have p:=MQ (r.dropWhile Bc) (C7 r) j g.2;intro t e;rw[CE]at e;rcases Qh.1 e with rfl|e
   .have:=g.1;unfold CY at this|-;rw[GV _ _ i];exact this
   .exact p t e
 termination_by l=>l.length
 decreasing_by simp;have:=(List.dropWhile_suffix (l:=r) Bc).sublist.length_le;omega
theorem FW:∀(l:List UInt8),BH l=true->(CE l).length=l.count 47
  |[],_=>by simp[CE]
  |c::r,e=>by
   have d:c=47:=by simpa[BH]using e
   subst d;have g:=FW (r.dropWhile Bc) (C7 r);have b:r.takeWhile Bc++r.dropWhile Bc=r:=List.takeWhile_append_dropWhile
   have a:(r.takeWhile Bc).count 47=0:=by
    rw[List.count_eq_zero];intro f;have:=WV f;simp[Bc]at this
   have:r.count 47=(r.dropWhile Bc).count 47:=by
    conv=>lhs;rw[<-b,List.count_append,a,Nat.zero_add]
   rw[CE,Qj,g,List.count_cons,this];simp
 termination_by l=>l.length
 decreasing_by simp;have:=(List.dropWhile_suffix (l:=r) Bc).sublist.length_le;omega
theorem G6:∀(p:List UInt8),(Ct p).length<=p.length
 |[]=>by simp[Ct]
 |[_]=>by simp[Ct]
 |c::d::r=>by
  rw[Ct];split
  .have:=G6 r;simp;omega
  .have:=G6 (d::r);simp at this|-;omega
theorem OJ:∀(l:List UInt8) (t:List UInt8),t∈CE l->t.length<=l.length
  |[],t,h=>by simp[CE]at h
  |c::r,t,h=>by
   rw[CE]at h;have a:=(List.dropWhile_suffix (l:=r) Bc).sublist.length_le;have b:=(List.takeWhile_prefix (l:=r) Bc).sublist.length_le;rcases Qh.1 h with rfl|h
   .have:=G6 (r.takeWhile Bc);simp;omega
   .have:=OJ _ t h;simp;omega
 termination_by l=>l.length
 decreasing_by simp;have:=(List.dropWhile_suffix (l:=r) Bc).sublist.length_le;omega
def AD(s:BY):Option (List BY):=
 if Al s=true/\BH s.data.toList=true/\A4 s.data.toList=true/\s.data.toList.count 47<=65536 then some ((CE s.data.toList).map fun t=>⟨t.toArray⟩)else none
def A6(ts:List BY):BY:=⟨(Bl (ts.map fun t=>t.data.toList)).toArray⟩
theorem DK{a b:BY}(h:a.data.toList=b.data.toList):a=b:=ByteArray.ext (Array.toList_inj.1 h)
theorem _root_.zi(h:p:=by exact(List.map_congr_left fun x _=>rfl).trans (List.map_id _)):p:=h
theorem JZ(h:AD s=some ts):A6 ts=s:=by
 unfold AD at h;split at h
 .rename_i a;injection h with h
  subst h;apply DK;unfold A6
  have e:(((CE s.data.toList).map fun t=>(⟨t.toArray⟩:BY)).map fun t=>t.data.toList)=CE s.data.toList:=by
   rw[List.map_map];exact zi
  show(Bl _).toArray.toList=_
  rw[e];exact MI _ a.2.1 a.2.2.1
 .cases h
theorem Pn(h:AD s=some ts):∀t∈ts,Al t=true:=by
 unfold AD at h;split at h
 .rename_i a;injection h with h
  subst h;intro t b;obtain⟨x,c,rfl⟩:=List.mem_map.1 b;rw[E8];exact MQ _ a.2.1 a.2.2.1 (by rw[<-E8];exact a.1) x c
 .cases h
theorem Lf(h:AD s=some ts):∀t∈ts,t.size<=s.size:=by
 unfold AD at h;split at h
 .rename_i c;injection h with h
  subst h;intro t a;obtain⟨x,b,rfl⟩:=List.mem_map.1 a;have:=OJ _ x b;show x.toArray.size<=s.data.size
  rw[List.size_toArray,<-Array.length_toList];exact this
 .cases h
theorem NK(h:AD s=some ts):ts.length<=65536:=by
 unfold AD at h;split at h
 .rename_i a;injection h with h
  subst h;rw[List.length_map,FW _ a.2.1];exact a.2.2.2
 .cases h
def Fi(c:UInt8):Bool:=decide (48<=c.toNat/\c.toNat<=57)
def KK(l:List UInt8):Nat:=l.foldl (fun a c=>10*a+(c.toNat-48)) 0
def D5(l:List UInt8):Option Nat:=
 if l≠[]/\(1<l.length->l.head? ≠some 48)/\l.all Fi=true then some (KK l)else none
def bL(s:BY)(n:Nat):Option Nat:=match D5 s.data.toList with
 |some k=>if k<n then some k else none
 |none=>none
end
section
open Go.Lib
variable{s:BY}{l:List UInt8}{k n:Nat}
theorem Lm(l:List UInt8)(c:UInt8):KK (l++[c])=10*KK l+(c.toNat-48):=by
 unfold KK;rw[List.foldl_append];rfl
theorem UW(l:List UInt8)(a:Nat)(h:1<=a):1<=l.foldl (fun a c=>10*a+(c.toNat-48)) a:=by
 induction l generalizing a with
 |nil=>exact h
 |cons c l b=>
  simp only[List.foldl_cons];exact b _ Zj
theorem X6(a:l.all Fi=true)(d:l≠[])(b:l.head? ≠some 48):1<=KK l:=by
 cases l with
 |nil=>exact absurd rfl d
 |cons c l=>
  refine UW l _ ?_;simp only[List.all_cons,Bool.and_eq_true,Fi,decide_eq_true_eq]at a;have:c≠48:=fun e=>b (by rw[e];rfl);have f:c.toNat≠48:=fun e=>this (UInt8.toNat_inj.1 (by rw[e];rfl));have g:(48:UInt8).toNat=48:=rfl;show 1<=10*0+(c.toNat-48)
  omega
theorem Wr(k:Nat)(h:k<10):(UInt8.ofNat (48+k)).toNat=48+k:=by
 rw[UInt8.toNat_ofNat'];omega
theorem DV(k:Nat):decDigits k≠[]/\(decDigits k).all Fi=true/\KK (decDigits k)=k/\(1<=k->(decDigits k).head? ≠some 48)/\(k<10->(decDigits k).length=1):=by
 induction k using Nat.strongRecOn with
 |_ k i=>
  by_cases h:k<10
  .rw[decDigits,dif_pos h];have e:=Wr k h;refine⟨Zh, ?_, ?_, ?_,fun _=>rfl⟩
   .simp only[List.all_cons,List.all_nil,Bool.and_true,Fi,e];simp;omega
   .simp only[KK,List.foldl_cons,List.foldl_nil,e];omega
   .intro j a;simp only[List.head?_cons,Option.some.injEq]at a;have:=congrArg UInt8.toNat a;rw[e]at this;have l:(48:UInt8).toNat=48:=rfl;omega
  .rw[decDigits,dif_neg h];obtain⟨c,d,f,g,_⟩:=i (k/10) Zj;have e:=Wr (k % 10) Zj;refine⟨Zh, ?_, ?_, ?_,fun a=>absurd a h⟩
   .rw[List.all_append,d];simp only[List.all_cons,List.all_nil,Bool.and_true,Fi,e,Bool.true_and];simp;omega
   .rw[Lm,f,e];omega
   .intro _;rw[List.head?_append];have:=g Zj;cases b:(decDigits (k/10)).head? with
    |none=>rw[List.head?_eq_none_iff]at b;exact absurd b c
    |some x=>rw[b]at this;simpa using this
theorem JU(k:Nat):D5 (decDigits k)=some k:=by
 obtain⟨b,c,d,e,f⟩:=DV k
 have a:1<(decDigits k).length->(decDigits k).head? ≠some 48:=by
  intro a;by_cases h:k<10
  .have:=f h;omega
  .exact e Zj
 unfold D5;rw[Qr ⟨b,a,c⟩,d]
theorem UQ(n:Nat):∀(l:List UInt8),l.length=n->l≠[]->(1<l.length->l.head? ≠some 48)->l.all Fi=true->decDigits (KK l)=l:=by
 induction n with
 |zero=>intro l e b;exact absurd (List.eq_nil_of_length_eq_zero e) b
 |succ n o=>
  intro l e b j a;obtain⟨p,c,rfl⟩:∃p c,l=p++[c]:=⟨l.dropLast,l.getLast b,(List.dropLast_concat_getLast b).symm⟩;rw[List.all_append,Bool.and_eq_true]at a;have r:48<=c.toNat/\c.toNat<=57:=by simpa[Fi]using a.2
  have f:UInt8.ofNat (48+(c.toNat-48))=c:=by
   rw[show 48+(c.toNat-48)=c.toNat from by omega];exact UInt8.ofNat_toNat
  rw[Lm];by_cases d:p=[]
  .subst d;rw[show KK []=0 from rfl,decDigits,dif_pos Zj];simp only[Nat.mul_zero,Nat.zero_add,List.nil_append];rw[f]
  .have k:p.length=n:=by simpa using e
   have s:0<p.length:=List.length_pos_iff.2 d
   have g:p.head? ≠some 48:=by
    have:=j zj;rw[List.head?_append]at this;cases m:p.head? with
    |none=>simp
    |some x=>rw[m]at this;simpa using this
   have q:=X6 a.1 d g;rw[decDigits,dif_neg Zj];have h:(10*KK p+(c.toNat-48))/10=KK p:=Zj;have i:(10*KK p+(c.toNat-48)) % 10=c.toNat-48:=Zj;rw[h,i,f,o p k d (fun _=>g) a.1]
theorem Gi:D5 l=some k↔l=decDigits k:=by
 constructor
 .intro h;unfold D5 at h;split at h
  .rename_i a;injection h with h
   rw[<-h];exact(UQ l.length l rfl a.1 a.2.1 a.2.2).symm
  .cases h
 .rintro rfl;exact JU k
theorem GN:bL s n=some k↔s.data.toList=decDigits k/\k<n:=by
 unfold bL;cases h:D5 s.data.toList with
 |none=>
  simp only[false_iff,reduceCtorEq];rintro⟨a,_⟩;rw[Gi.2 a]at h;cases h
 |some j=>
  have c:=Gi.1 h;simp only;split
  .constructor
   .intro e;injection e with e;subst e;exact⟨c,by assumption⟩
   .rintro⟨a,b⟩;rw[Gi.2 a]at h;rw[h]
  .simp only[false_iff,reduceCtorEq];rintro⟨a,b⟩;rw[Gi.2 a]at h;injection h with h
   omega
theorem Jf(h:bL s n=some k):k<n:=(GN.1 h).2
end
section
open Utf
theorem QK:∀(t:List UInt8),∀c∈esc t,Bc c=true
 |[],c,h=>by cases h
 |a::t,c,h=>by
  rw[esc]at h;rcases Qf.1 h with h|h
  .by_cases d:a=126
   .rw[Qr d]at h;simp at h;rcases h with rfl|rfl<;>decide
   .rw[Qs d]at h;by_cases b:a=47
    .rw[Qr b]at h;simp at h;rcases h with rfl|rfl<;>decide
    .rw[Qs b]at h;simp at h;subst h;simpa[Bc]using b
  .exact QK t c h
theorem QJ(t:List UInt8):∀(b:List UInt8),A4 b=true->A4 (esc t++b)=true:=by
 induction t with
 |nil=>intro b d;exact d
 |cons a t f=>
  intro b d;rw[esc,List.append_assoc];have h:=f b d;by_cases c:a=126
  .rw[Qr c];simp[A4,h]
  .rw[Qs c];by_cases e:a=47
   .rw[Qr e];simp[A4,h]
   .rw[Qs e];simp[A4,h,c]
theorem T3{c:UInt8}(r:List UInt8)(h:c≠126):Ct (c::r)=c::Ct r:=by
 cases r with
 |nil=>rfl
 |cons d r=>rw[Ct,Qs h]
theorem OM(t:List UInt8):Ct (esc t)=t:=by
 induction t with
 |nil=>rfl
 |cons a t c=>
  rw[esc];by_cases b:a=126
  .subst b;simp[Ct,c]
  .rw[Qs b];by_cases d:a=47
   .subst d;simp[Ct,c]
   .rw[Qs d,List.singleton_append,T3 _ b,c]
theorem JJ(ts:List (List UInt8)):BH (Bl ts)=true:=by cases ts<;>simp[Bl,BH]
theorem Rr(ts:List (List UInt8)):A4 (Bl ts)=true:=by
 induction ts with
 |nil=>rfl
 |cons t l a=>
  rw[Bl,Qo,A4,QJ t _ a];simp
theorem VY{p:UInt8->Bool}{a b:List UInt8}(h:∀c∈a,p c=true)(g:b=[]\/∃c r,b=c::r/\p c=false):(a++b).takeWhile p=a/\(a++b).dropWhile p=b:=by
 induction a with
 |nil=>
  rcases g with rfl|⟨c,r,rfl,d⟩
  .exact⟨rfl,rfl⟩
  .simp[List.takeWhile,List.dropWhile,d]
 |cons c a j=>
  obtain⟨e,f⟩:=j fun x i=>h x (by simp[i]);have d:=h c Zh;simp only[Qo,List.takeWhile_cons,List.dropWhile_cons,d,if_true,e,f,true_and]
theorem MH(ts:List (List UInt8)):Bl ts=[]\/∃c r,Bl ts=c::r/\Bc c=false:=by
 cases ts with
 |nil=>exact .inl rfl
 |cons t l=>exact .inr ⟨47,_,rfl,rfl⟩
theorem M8(ts:List (List UInt8)):CE (Bl ts)=ts:=by
 induction ts with
 |nil=>simp[Bl,CE]
 |cons t l c=>
  rw[Bl,Qo,CE];obtain⟨a,b⟩:=VY (p:=Bc) (QK t) (MH l);rw[a,b,OM,c]
theorem XH(t:List UInt8):∀a,Fw a (esc t)=Fw a t:=by
 intro a;have h:=GV (esc t) a (by have:=QJ t [] rfl;simpa using this);rw[OM]at h;exact h.symm
theorem Pw(ts:List (List UInt8))(h:∀t∈ts,CY t=true):CY (Bl ts)=true:=by
 induction ts with
 |nil=>rfl
 |cons t l j=>
  have a:=j fun x i=>h x (by simp[i])
  have d:CY (esc t)=true:=by
   have:=h t Zh;unfold CY at this|-;rw[XH];exact this
  rw[Bl,Qo,EQ _ _ ZM];cases b:l with
  |nil=>simpa[Bl]using d
  |cons u m=>
   rw[<-b];obtain⟨c,r,e,f⟩:=(MH l).resolve_left (by rw[b];simp[Bl]);have g:c=47:=by simpa[Bc]using f
   subst g;rw[e,Jp _ _ _ ZM,d];rw[e,EQ _ _ ZM]at a;simpa using a
theorem QB(ts:List (List UInt8)):(Bl ts).count 47=ts.length:=by
 rw[<-FW _ (JJ ts),M8]
theorem FT{ts:List BY}(h:∀t∈ts,Al t=true)(a:ts.length<=65536):AD (A6 ts)=some ts:=by
 have e:(A6 ts).data.toList=Bl (ts.map fun t=>t.data.toList):=rfl;unfold AD;rw[E8,e,Qr ⟨Pw _ (fun t b=>by obtain⟨u,c,rfl⟩:=List.mem_map.1 b;rw[<-E8];exact h u c),JJ _,Rr _,by rw[QB,List.length_map];exact a⟩,M8,List.map_map]
 congr 1
 exact zi
theorem YL(a b:List BY):(A6 (a++b)).data.toList=(A6 a).data.toList++(A6 b).data.toList:=by
 unfold A6;simp only[List.map_append];generalize (a.map fun t=>t.data.toList)=x
 generalize (b.map fun t=>t.data.toList)=y
 show Bl (x++y)=Bl x++Bl y
 induction x with
 |nil=>rfl
 |cons t l c=>simp only[Qo,Bl,c,List.append_assoc]
end
end Ptr

/- Part 5 of the proof of coreBase. -/
import Derived.BigQuiet
import Derived.Deep.LoopGhost
import Derived.Deep.QuietTactic
import Derived.Ground.Names2Prog
import Derived.Ground.NamesProg
import Derived.Ground.SlgnProg
import Derived.Ground.SlsfProg
import Derived.LaidEql
import Derived.Outline
import Derived.Shelf.Bits.Mul64
import Derived.Shelf.SlGeneric
import Derived.Shelf.SlSortCmp.NoneTotal
import Derived.Shelf.SlicesQ.Reverse
import Derived.StillTailTactics
import Derived.Test.YtkfnkppdhcaeoaaGreatDoorM04
set_option maxRecDepth 100000
set_option maxHeartbeats 32000000
set_option linter.all false
namespace Go.Proofs.YtkfnkppdhcaeoaaGreatDoor
open Go renaming Calls->Cl,TypeId->Ti,Value->Vl,World->Wl
section
open Go Go.RowKit
theorem Bx{w:Wl}{B:Nat}(a:w.heap.size=B)(v:Vl)(T:Ti):(w.alloc (.cells #[v] T)).cell? ⟨B,0,none⟩=some v:=by
 subst a;rw[World.cell?_alloc_mark];rfl
theorem AK.norm{w:Wl}{a:Option Addr}{n c b:Nat}{e:Ti}{xs d:List Vl}(h:AK w (.slice a n b) e xs)(f:n=c)(g:xs=d):AK w (.slice a c b) e d:=by
 subst f;subst g;exact h
theorem Chg.own{w W a:Wl}{v sv:Vl}{bs:List Nat}(h:Chg w W bs)(k:Chg W a v.ownBlock.toList)(c:∀g,sv.ownBlock=some g->g∈bs)(b:∀g,v.ownBlock=some g->sv.ownBlock=some g\/w.heap.size<=g):Chg w a bs:=
 h.step k fun i hi d=>by
  rcases b i (by simpa using hi)with h|h
  .exact c i h
  .omega
theorem LF{P:Program}{h:Array Oper}{rest:List Oper}{o:Oper}{a:Act}{Q:Exit->Act->Wl->Prop}{w:Wl}(y:o.guard=none)(l c:Operand)(t:Ti)(F:o.op=Op.makeSlice t l c)(e:Ti)(z:Vl)(d:Nat)(I:P.underlying t=some (.slice e))(A:(P.info? e).map (fun i=>(i.zero,i.size,i.bytes))=some (some z,1,d))(g f:IntKind)(C:Int)(n:Nat)(E:a.eval l= .int g 0)(x:a.eval c= .int f C)(r:C=(n:Int))(j:d*n<=281474976710656)(m:n<=maxLen)(B:Nat)(q:w.heap.size=B)(s:∀w',AK w' (.slice (some ⟨B,0,none⟩) 0 n) e []->Chg w w' []->wpList P h Q rest (a.put o.dst (.slice (some ⟨B,0,none⟩) 0 n)) w'):
  wpList P h Q (o::rest) a w:=by
 obtain⟨i,hi,J,H,v⟩:=info_parts A;subst r;subst v;subst q;obtain⟨w',G,p,b⟩:=run_make_own (P:=P) w 0 t e i z 1 I hi J H g f n j m (Nat.zero_le _);refine wpList_plain y fun K u=> ?_
 unfold Oper.wp;simp only[execOp,F,E,x,G,Sem.run_bind,Result.andThen_ok,Sem.run_pure];exact u _ _ (s w' p ⟨b.os,b.tape,b.output,b.size,fun k D _=>b.block k D Zh⟩)
theorem AK.convert{P:Program}{w:Wl}{g n a:Nat}{e:Ti}{xs:List Int}(h:AK w (.slice (some ⟨g,0,none⟩) n a) e (xs.map (Vl.int .u8)))(c b:Ti)(k:P.underlying c=some (.slice e))(j:P.underlying e=some (.int .u8))(f:P.underlying b=some .string):
  (Go.convert c b (.slice (some ⟨g,0,none⟩) n a)).run P w= .ok (.string (strOfNums xs)) w:=by
 have d:=h.capLe.1;rw[List.length_map]at d;subst d;refine run_convert_bytes_arg w c e k j g 0 xs.length a xs rfl (fun i hi=> ?_) b f;rw[Nat.zero_add];refine h.cell rfl i _ ?_;simp[hi]
def As(w:Wl)(d:Vl)(sz n:Nat)(xs:List Vl):Prop:=
 ∃a c,d= .slice a n c/\n<=c/\xs.length=n*sz/\∀i v,xs[i]? =some v->∃b o,a=some ⟨b,o,none⟩/\w.cell? ⟨b,o+i,none⟩=some v
theorem As.kept{w w':Wl}{d:Vl}{sz n:Nat}{xs:List Vl}(h:As w d sz n xs)(m:Chg w w' []):As w' d sz n xs:=by
 obtain⟨a,c,g,j,k,l⟩:=h;exact⟨a,c,g,j,k,fun i v p=>by obtain⟨b,o,e,f⟩:=l i v p;exact⟨b,o,e,m.keeps f⟩⟩
theorem As.form{w:Wl}{b:Vl}{sz n:Nat}{xs:List Vl}(h:As w b sz n xs):∃a c,b= .slice a n c/\n<=c/\xs.length=n*sz:=by
 obtain⟨a,c,d,e,f,_⟩:=h;exact⟨a,c,d,e,f⟩
theorem As.get{w:Wl}{a:Option Addr}{sz n m c:Nat}{xs:List Vl}(h:As w (.slice a m c) sz n xs){i:Nat}{v:Vl}(g:xs[i]? =some v):∃b o,a=some ⟨b,o,none⟩/\w.cell? ⟨b,o+i,none⟩=some v:=by
 obtain⟨j,k,e,_,_,f⟩:=h
 injection e with d _ _
 subst d;exact f i v g
theorem As.base{w:Wl}{a:Option Addr}{sz n m c:Nat}{xs:List Vl}(h:As w (.slice a m c) sz n xs)(q:0<n)(r:0<sz):∃b o,a=some ⟨b,o,none⟩/\∀i v,xs[i]? =some v->w.cell? ⟨b,o+i,none⟩=some v:=by
 obtain⟨t,x,k,_,l,g⟩:=h
 injection k with f _ _
 subst f;have:0<xs.length:=by rw[l];exact Nat.mul_pos q r
 obtain⟨b,o,e,_⟩:=g 0 xs[0] (Q9 this);refine⟨b,o,e,fun i v s=> ?_⟩;obtain⟨u,y,d,p⟩:=g i v s;rw[e]at d
 injection d with d
 injection d with f j
 subst f;subst j;exact p
theorem As.tail{w:Wl}{a:Option Addr}{sz n c:Nat}{xs:List Vl}(h:As w (.slice a n c) sz n xs)(k m d:Nat)(s:n=m+k)(q:m<=d):As w (.slice (Option.map (fun x=>x.add (k*sz)) a) m d) sz m (xs.drop (k*sz)):=by
 obtain⟨t,u,j,y,l,p⟩:=h
 injection j with g _ _
 subst g;refine⟨_,_,rfl,q,by rw[Qm,l,s,Nat.add_mul];omega,fun i v f=> ?_⟩;rw[List.getElem?_drop]at f;obtain⟨b,o,e,r⟩:=p _ v f;subst e;refine⟨b,o+k*sz, ?_,by rw[Nat.add_assoc];exact r⟩;simp[FB]
theorem As.tail1{w:Wl}{b o:Nat}{n c:Nat}{x:Vl}{xs:List Vl}(h:As w (.slice (some ⟨b,o,none⟩) (n+1) c) 1 (n+1) (x::xs))(a:Nat)(d:n<=a):As w (.slice (some ⟨b,o+1,none⟩) n a) 1 n xs:=by
 have:=h.tail 1 n a rfl d;simpa[FB]using this
theorem As.next{w:Wl}{b o:Nat}{m M c:Nat}{x:Vl}{xs:List Vl}(h:As w (.slice (some ⟨b,o,none⟩) m c) 1 m (x::xs))(a:Nat)(e:M=xs.length)(f:M<=a):As w (.slice (some ⟨b,o+1,none⟩) M a) 1 xs.length xs:=by
 subst e;have g:m=xs.length+1:=by obtain⟨_,_,_,_,d,_⟩:=h;simp at d;omega
 subst g;exact h.tail1 a f
theorem ED{w:Wl}{a:Option Addr}{M c:Nat}{xs:List Vl}(e:xs.length=0)(b:M=xs.length):As w (.slice a M c) 1 xs.length xs:=by
 have:xs=[]:=List.eq_nil_of_length_eq_zero e;subst this;subst b;exact⟨_,_,rfl,Nat.zero_le _,Zh,fun i v d=>by simp at d⟩
theorem As.nextZ{w:Wl}{b o sz:Nat}{m M n c:Nat}{us xs:List Vl}(h:As w (.slice (some ⟨b,o,none⟩) m c) sz m (us++xs))(a:Nat)(i:us.length=sz)(e:m=M+1)(g:M=n)(f:M<=a):As w (.slice (some ⟨b,o+sz,none⟩) M a) sz n xs:=by
 subst g;have d:=h.tail 1 M a e f;rw[Nat.one_mul,List.drop_append,List.drop_of_length_le Zj,i,Nat.sub_self,List.drop_zero,List.nil_append]at d;simpa[FB]using d
theorem Ei{w:Wl}{a:Option Addr}{sz M n c:Nat}{xs:List Vl}(b:M=0)(d:n=0)(f:xs.length=0):As w (.slice a M c) sz n xs:=by
 subst b;subst d;have:xs=[]:=List.eq_nil_of_length_eq_zero f;subst this;exact⟨_,_,rfl,Nat.zero_le _,Zh,fun i v e=>by simp at e⟩
theorem As.head{w:Wl}{a:Option Addr}{sz n c:Nat}{xs:List Vl}(h:As w (.slice a n c) sz n xs)(k:Nat)(l:k<=n):As w (.slice a k c) sz k (xs.take (k*sz)):=by
 obtain⟨m,o,f,p,g,j⟩:=h
 injection f with d _ e
 subst d;subst e;refine⟨_,_,rfl,Zj,by rw[Ql,g];exact Nat.min_eq_left (Nat.mul_le_mul_right _ l),fun i v b=> ?_⟩
 have hi:i<k*sz:=by
  have:=(Qc.1 b).1;rw[Ql]at this;omega
 rw[List.getElem?_take_of_lt hi]at b;exact j i v b
theorem AK.rowC{w:Wl}{sv:Vl}{e:Ti}{xs:List Vl}(h:AK w sv e xs):As w sv 1 xs.length xs:=by
 obtain⟨a,c,rfl,j⟩:=h.form;have f:=h.capLe;refine⟨a,c,rfl,f.2,Zh,fun i v b=> ?_⟩;obtain⟨g,rfl⟩:=j (by intro d;subst d;simp at b);exact⟨g,0,rfl,by rw[Nat.zero_add];exact h.cell rfl i v b⟩
def LD:Vl->Nat
 | .slice _ n _=>n
 |_=>0
end
section
open _root_.Go.Proofs.Tryz
open Go Go.RowKit
theorem WF:(prog.info? 21).map (fun i=>(i.zero,i.size,i.bytes))=some (some (.int .i32 0),1,4):=Yb
theorem WG:(prog.info? 3).map (fun i=>(i.zero,i.size,i.bytes))=some (some (.int .i64 0),1,8):=Yb
theorem QQ:(prog.info? 325).map (fun i=>(i.zero,i.size,i.bytes))=some (some (.int .u16 0),1,2):=Yb
def L3(l:List Int):List Vl:=l.map (Vl.int .i32)
theorem MS{s:BY}:∀(f p:Nat) (l:List Int),Utf.Ch s f p=some l->l.length<=s.size-p
 |0,p,l,h=>by
  simp only[Utf.Ch]at h;split at h
  .injection h with h;subst h;simp
  .cases h
 |f+1,p,l,h=>by
  simp only[Utf.Ch]at h;split at h
  .injection h with h;subst h;simp
  .rename_i d
   split at h
   .rename_i b
    obtain⟨c,a,rfl⟩:=Option.map_eq_some_iff.1 h;have:=MS f _ c a;have e:=((Utf.El Zj).1 b).1;simp only[Qj];omega
   .cases h
theorem XC(s:BY)(L:List Int)(w:Wl)(hs:s.size<=2147483648)(Y:Utf.Sb s=some L):
  Cl prog 243 #[.string s] w fun e w'=>(∃v u,e= .returned (.tuple #[v,u])/\AK w' v 21 (L3 L)/\∀g,v.ownBlock=some g->w.heap.size<=g)/\Chg w w' []:=by
 have HL:=hZ Y;clear Y;go_enter func243,ntmps243
 go_wp2
 go_loopw [4,5,6] (fun H I J wr=>∃(p k:Nat) (b rest:List Int) (ys:List Vl),p<=s.size/\s.size<=p+k/\J= .int .i64 p/\Utf.Ch s k p=some rest/\L=b++rest/\b.length<=p/\ys.length<=p/\AK wr H 21 (L3 b)/\AK wr I 3 ys/\Chg w wr []/\
   (∀g,H.ownBlock=some g->w.heap.size<=g)/\(∀g,I.ownBlock=some g->w.heap.size<=g)/\(∀g,H.ownBlock=some g->I.ownBlock=some g->False)) (fun _ _ J _=>s.size-(intOf J).toNat)
 case atStart=>exact⟨0,s.size,[],L,[],Zj,Zj,rfl,HL.o,rfl,Zh,Zh,AK.nil _ _,AK.nil _ _,Chg.refl _ _,fun g a=>(by cases a),fun g a=>(by cases a),fun g a=>(by cases a)⟩
 case round=>
  obtain⟨K,rfl⟩:=Ue wr
  obtain⟨p,k,b,rest,ys,hp,hk,rfl,hr,af,ax,az,aa,ab,a,ah,ai,hd⟩:=hrel;have l:=hZ hr;have S:=hZ af;have R:=hZ aa;have z:=hZ ab;have x:=hZ a;have C:=hZ ah;have T:=hZ ai;have t:=hZ hd;clear hr af aa ab a ah ai hd;by_cases ag:p<s.size
  .obtain⟨o,rfl⟩:∃o,k=o+1:=⟨k-1,Zj⟩
   have f:Utf.NE s p=true:=by
    have:=l.o;simp only[Utf.Ch]at this;rw[Qs Zj]at this
    cases h:Utf.NE s p with
    |true=>rfl
    |false=>rw[h]at this;simp at this
   obtain⟨q,G,i⟩:∃q,Utf.Ch s o (p+Utf.AJ s p)=some q/\rest=Utf.GY s p::q:=by
    have:=l.o;simp only[Utf.Ch]at this;rw[Qs Zj,f,Qr rfl]at this;obtain⟨l',m,n⟩:=Option.map_eq_some_iff.1 this;exact⟨l',m,n.symm⟩
   have aq:1<=Utf.AJ s p/\Utf.AJ s p<=4:=by
    have m:=((Utf.El ag).1 f).1;have n:=Utf.Io (Utf.Aj s p);unfold Utf.AJ at*;omega
   have ap:p+Utf.AJ s p<=s.size:=by unfold Utf.NE at f;simp at f;omega
   have B:=hZ (RS s p K hs ag f);obtain⟨wi,ak⟩:=Ue (Utf.AJ s p)
   obtain⟨j,aj⟩:=Ue (Utf.GY s p)
   rw[<-ak]at aq ap G B;rw[<-aj]at i B;clear ak aj;have an:=hZ G;have ao:=hZ i;have A:Hid ((L3 b).length=b.length):=by unfold Hid L3;simp
   clear f G i l;have ay:wi<=s.size:=Zj
   go_wp2_with(first
    |(go_at_call 206;refine B.o.mono ?_;rintro e w' ⟨rfl,rfl⟩)
    |(at_builtin;refine AM rfl _ _ _ rfl 21 (.int .i32 0) 4 underlying351 WF rfl u4 (L3 b) ZN (by exact R.o.kept (bs:=[]) (by exact cg cR) Zh) K.heap.size (.int .i32 j) ZN (by exact Bx Zh _ _) rfl (by rw[A.o];omega) (by rw[A.o];omega) ?_;rw[A.o];intro g ar r Z E W;obtain⟨nb,aw⟩:=Ue r.heap.size;have Q:=hZ Z;have N:=hZ E;have y:=hZ W;have al:=hZ ((z.o.kept ((Chg.refl K []).alloc (.cells #[.int .i32 j] 21))).kept E (fun g a F=>t.o g (by simpa using F) a));clear Z E W)
    |(at_builtin;refine AM rfl _ _ _ rfl 3 (.int .i64 0) 8 underlying352 WG rfl u5 ys ZN (by exact al.o.kept (bs:=[]) (by exact cg cR) Zh) r.heap.size (.int .i64 p) ZN (by exact Bx Zh _ _) rfl Zj Zj ?_;intro g5 au w5 ad V X;have am:=hZ ad;have O:=hZ V;have P:=hZ X;clear ad V X))
   go_roundw
   case rel=>
    have M:Chg w r []:=Chg.own (sv:= .slice none 0 0) (by exact cg x.o) N.o (fun g a=>by cases a) (fun g a=> .inr (C.o g a));have G2:Chg w w5 []:=Chg.own (sv:= .slice none 0 0) (by exact cg M) O.o (fun g a=>by cases a) (fun g a=> .inr (T.o g a));have z1:=x.o.size;have z2:=M.size;have z3:=N.o.size;simp only[World.size_alloc]at z3
    have av:g≠g5:=by
     intro he
     rcases P.o with h|h
     .have l5:=z.o.lt h
      rcases y.o with d|d
      .exact t.o _ d (he▸h)
      .simp at d;omega
     .have l3:=Q.o.lt (g:=g) rfl
      simp at h;omega
    refine⟨p+wi,o,b++[j],q,ys++[.int .i64 p],Zj,Zj,by go_num,an.o,by rw[S.o,ao.o];simp,by simp;omega,by simp;omega, ?_,by simpa using am.o,G2, ?_, ?_, ?_⟩
    .have h:=(Q.o.kept ((Chg.refl r []).alloc (.cells #[.int .i64 p] 3))).kept O.o (fun D c F=>by
      simp[Vl.ownBlock]at c;subst c;have U:u5.ownBlock=some g:=by simpa using F
      rcases y.o with d|d
      .exact t.o _ d U
      .have l5:=z.o.lt U
       simp at d;omega)
     rw[show L3 (b++[j])=L3 b++[.int .i32 j]from by simp[L3]];exact h
    .intro D c
     simp[Vl.ownBlock]at c;subst c
     rcases y.o with h|h
     .exact C.o _ h
     .simp at h;omega
    .intro D c
     simp[Vl.ownBlock]at c;subst c
     rcases P.o with h|h
     .exact T.o _ h
     .simp at h;omega
    .intro D m n
     simp[Vl.ownBlock]at m n;omega
   case measure=>simp[intOf];omega
  .obtain rfl:p=s.size:=by omega
   have i:rest=[]:=by
    have:=l.o
    cases k with
    |zero=>simp[Utf.Ch]at this;exact this
    |succ k=>simp[Utf.Ch]at this;exact this
   subst i;have ae:=S.o;rw[List.append_nil]at ae;subst ae;go_wp2
   go_ret2
   exact⟨⟨_,_,rfl,R.o,C.o⟩,x.o⟩
end
section
open _root_.Go.Proofs.Tryz
open Go Go.RowKit Tree
def vC(d:Int)(flag:Bool)(a:Int)(text:BY)(b c:Vl):List Vl:=[.int .i64 d,.bool flag,.int .u64 a,.string text,b,c]
theorem Jy(d:Int)(flag:Bool)(a:Int)(text:BY)(b c:Vl):(vC d flag a text b c).toArray=#[.int .i64 d,.bool flag,.int .u64 a,.string text,b,c]:=rfl
theorem A9:(prog.info? 29).map (·.size)=some 6:=Yb
def Tl(b:Nat):Nat:=if b=9223372036854775808 then 0 else b
theorem YM(b:Nat)(w:Wl):
  Cl prog 165 #[.int .u64 b] w fun e w'=>e= .returned (.agg (vC 3 false (Tl b) ⟨#[]⟩ (.slice none 0 0) (.slice none 0 0)).toArray)/\Chg w w' []:=by
 by_cases h:b=9223372036854775808
 .have a:Tl b=0:=by unfold Tl;rw[Qr h]
  rw[a];have d:((b:Int)==9223372036854775808)=true:=by simp;omega
  clear a h;go_enter func165,ntmps165
  go_wp2
  refine bodyPost_ret (Bi rfl _ _ w.heap.size 29 (vC 3 false 0 ⟨#[]⟩ (.slice none 0 0) (.slice none 0 0)) _ rfl (Ac.new w _ _) underlying29 rfl A9) rfl ⟨rfl,(Chg.refl w []).alloc _⟩
 .have a:Tl b=b:=by unfold Tl;rw[Qs h]
  rw[a];have d:((b:Int)==9223372036854775808)=false:=by simp;omega
  clear a h;go_enter func165,ntmps165
  go_wp2
  refine bodyPost_ret (Bi rfl _ _ w.heap.size 29 (vC 3 false b ⟨#[]⟩ (.slice none 0 0) (.slice none 0 0)) _ rfl (Ac.new w _ _) underlying29 rfl A9) rfl ⟨rfl,(Chg.refl w []).alloc _⟩
end
end Go.Proofs.YtkfnkppdhcaeoaaGreatDoor
namespace Go.Proofs
open Go renaming Calls->Cl,TypeId->Ti,Value->Vl,World->Wl
section
open Go.Shelf
def bz:Go.Shelf.Ren:=⟨fun|6=>156|15=>185|14=>184|28=>227|29=>228|20=>219|21=>220|22=>221|23=>222|24=>223|25=>224|26=>225|27=>226|46=>252|47=>253|48=>254|49=>255|50=>256|57=>271|n=>n,fun|22=>27|24=>9|25=>197|3=>3|39=>300|0=>0|53=>340|55=>25|4=>4|46=>334|45=>333|50=>248|5=>5|9=>9|66=>368|70=>372|76=>386|77=>387|n=>n,fun|n=>n⟩
theorem bB:Go.Proofs.SlLaysF.n6 Tryz.prog bz:=by
 constructor
 case f6=>exact⟨Tryz.f156.name,by decide,Tryz.func156.trans (congrArg some (by kernel_rfl))⟩
 case f14=>exact⟨Tryz.f184.name,by decide,Tryz.func184.trans (congrArg some (by kernel_rfl))⟩
 case f15=>exact Tryz.func185.trans (congrArg some (by kernel_rfl))
 case f20=>exact⟨Tryz.f219.name,by decide,Tryz.func219.trans (congrArg some (by kernel_rfl))⟩
 case f21=>exact⟨Tryz.f220.name,by decide,Tryz.func220.trans (congrArg some (by kernel_rfl))⟩
 case f22=>exact⟨Tryz.f221.name,by decide,Tryz.func221.trans (congrArg some (by kernel_rfl))⟩
 case f23=>exact⟨Tryz.f222.name,by decide,Tryz.func222.trans (congrArg some (by kernel_rfl))⟩
 case f24=>exact⟨Tryz.f223.name,by decide,Tryz.func223.trans (congrArg some (by kernel_rfl))⟩
 case f25=>exact⟨Tryz.f224.name,by decide,Tryz.func224.trans (congrArg some (by kernel_rfl))⟩
 case f26=>exact⟨Tryz.f225.name,by decide,Tryz.func225.trans (congrArg some (by kernel_rfl))⟩
 case f27=>exact⟨Tryz.f226.name,by decide,Tryz.func226.trans (congrArg some (by kernel_rfl))⟩
 case f28=>exact Tryz.func227.trans (congrArg some (by kernel_rfl))
 case f29=>exact Tryz.func228.trans (congrArg some (by kernel_rfl))
 case f46=>exact⟨Tryz.f252.name,by decide,Tryz.func252.trans (congrArg some (by kernel_rfl))⟩
 case f47=>exact Tryz.func253.trans (congrArg some (by kernel_rfl))
 case f48=>exact Tryz.func254.trans (congrArg some (by kernel_rfl))
 case f49=>exact⟨Tryz.f255.name,by decide,Tryz.func255.trans (congrArg some (by kernel_rfl))⟩
 case f50=>exact⟨Tryz.f256.name,by decide,Tryz.func256.trans (congrArg some (by kernel_rfl))⟩
 case f57=>exact⟨Tryz.f271.name,by decide,Tryz.func271.trans (congrArg some (by kernel_rfl))⟩
 all_goals first|kernel_rfl|(intro w;kernel_rfl)|(intro x w;kernel_rfl)
def bw:Go.Shelf.Ren:=⟨fun|6=>156|15=>185|14=>184|28=>227|29=>228|20=>219|21=>220|22=>221|23=>222|24=>223|25=>224|26=>225|27=>226|46=>252|47=>253|48=>254|49=>255|50=>256|57=>271|n=>n,fun|22=>27|24=>9|25=>197|3=>3|39=>300|0=>0|53=>340|55=>25|4=>4|46=>334|45=>333|50=>248|5=>5|9=>9|66=>368|70=>372|76=>386|77=>387|n=>n,fun|n=>n⟩
theorem bA:Go.Proofs.SlLaysF0.n6 Tryz.prog bw:=by
 constructor
 case f6=>exact⟨Tryz.f156.name,by decide,Tryz.func156.trans (congrArg some (by kernel_rfl))⟩
 case f14=>exact⟨Tryz.f184.name,by decide,Tryz.func184.trans (congrArg some (by kernel_rfl))⟩
 case f15=>exact Tryz.func185.trans (congrArg some (by kernel_rfl))
 case f20=>exact⟨Tryz.f219.name,by decide,Tryz.func219.trans (congrArg some (by kernel_rfl))⟩
 case f21=>exact⟨Tryz.f220.name,by decide,Tryz.func220.trans (congrArg some (by kernel_rfl))⟩
 case f22=>exact⟨Tryz.f221.name,by decide,Tryz.func221.trans (congrArg some (by kernel_rfl))⟩
 case f23=>exact⟨Tryz.f222.name,by decide,Tryz.func222.trans (congrArg some (by kernel_rfl))⟩
 case f24=>exact⟨Tryz.f223.name,by decide,Tryz.func223.trans (congrArg some (by kernel_rfl))⟩
 case f25=>exact⟨Tryz.f224.name,by decide,Tryz.func224.trans (congrArg some (by kernel_rfl))⟩
 case f26=>exact⟨Tryz.f225.name,by decide,Tryz.func225.trans (congrArg some (by kernel_rfl))⟩
 case f27=>exact⟨Tryz.f226.name,by decide,Tryz.func226.trans (congrArg some (by kernel_rfl))⟩
 case f28=>exact Tryz.func227.trans (congrArg some (by kernel_rfl))
 case f29=>exact Tryz.func228.trans (congrArg some (by kernel_rfl))
 case f46=>exact⟨Tryz.f252.name,by decide,Tryz.func252.trans (congrArg some (by kernel_rfl))⟩
 case f47=>exact Tryz.func253.trans (congrArg some (by kernel_rfl))
 case f48=>exact Tryz.func254.trans (congrArg some (by kernel_rfl))
 case f49=>exact⟨Tryz.f255.name,by decide,Tryz.func255.trans (congrArg some (by kernel_rfl))⟩
 case f50=>exact⟨Tryz.f256.name,by decide,Tryz.func256.trans (congrArg some (by kernel_rfl))⟩
 case f57=>exact⟨Tryz.f271.name,by decide,Tryz.func271.trans (congrArg some (by kernel_rfl))⟩
 all_goals first|kernel_rfl|(intro w;kernel_rfl)|(intro x w;kernel_rfl)
def bZ:Go.Shelf.Ren:=⟨fun|35=>47|n=>n,fun|22=>23|23=>42|3=>3|4=>4|0=>0|n=>n,fun|n=>n⟩
theorem bV:Go.Proofs.SlLaysE0.n35 Tryz.prog bZ:=by
 constructor
 case f35=>exact⟨Tryz.f47.name,by decide,Tryz.func47.trans (congrArg some (by kernel_rfl))⟩
 all_goals first|kernel_rfl|(intro w;kernel_rfl)|(intro x w;kernel_rfl)
end
end Go.Proofs
namespace Go.Proofs.YtkfnkppdhcaeoaaGreatDoor
open Go renaming Calls->Cl,TypeId->Ti,Value->Vl,World->Wl
section
open _root_.Go.Proofs.Tryz
open Go.RowKit
namespace PUtf
open Utf (IP EY)
def EX(c:Nat):Vl:= .agg #[.int .i64 (Utf.AV c),.int .u8 (IP c),.int .u8 (EY c)]
theorem UX{c:Nat}{a l h:Int}(b:a=Utf.AV c)(e:l=IP c)(d:h=EY c):
  Ending.returned (.agg #[.int .i64 a,.int .u8 l,.int .u8 h])= .returned (EX c):=by
 subst b;subst e;subst d;rfl
end PUtf
theorem Cn(c:Nat)(a:c<256)(w:Wl):
  Cl prog 209 #[.int .u8 c] w fun e w'=>e= .returned (PUtf.EX c)/\AB w w' []:=by
 go_enter func209,ntmps209
 go_wp2
 all_goals refine bodyPost_ret (v:= .agg #[.int .i64 _,.int .u8 _,.int .u8 _]) (by simp[results,results209,go_sem];exact⟨rfl,rfl,rfl⟩) rfl ⟨PUtf.UX ?_ ?_ ?_,(AB.refl _ _).alloc _⟩
 all_goals go_light
 all_goals(try simp only[beq_iff_eq,Qq,ne_eq]at*)
 all_goals(first|unfold Utf.AV|unfold Utf.IP|unfold Utf.EY)
 all_goals repeat' split
 all_goals omega
theorem Y0(c i d:Nat)(f:2<=Utf.AV c)(w:Wl):
  Cl prog 210 #[PUtf.EX c,.int .i64 i,.int .u8 d] w fun e w'=>e= .returned (.bool (Utf.EL c i d))/\AB w w' []:=by
 unfold PUtf.EX;go_enter func210,ntmps210
 by_cases a:i=1
 .have g:((i:Int)==1)=true:=by simp[a]
  have b:=hZ a;clear a;go_wp2
  all_goals go_ret
  all_goals refine⟨Bo ?_,(AB.refl _ _).alloc _⟩
  all_goals rw[b.o,Utf.Gf,Utf.TN d f,Bool.eq_iff_iff]
  all_goals simp
  all_goals omega
 .have g:((i:Int)==1)=false:=Qq.2 Zj
  have b:=hZ a;clear a;go_wp2
  all_goals go_ret
  all_goals refine⟨Bo ?_,(AB.refl _ _).alloc _⟩
  all_goals rw[Utf.EF b.o,Utf.He,Bool.eq_iff_iff]
  all_goals simp
  all_goals omega
theorem Ep(c i d n:Nat)(a:n=Utf.AV c)(b:2<=Utf.AV c)(w:Wl):
  Cl prog 210 #[.agg #[.int .i64 n,.int .u8 (Utf.IP c),.int .u8 (Utf.EY c)],.int .i64 i,.int .u8 d] w fun e w'=>
   e= .returned (.bool (Utf.EL c i d))/\AB w w' []:=by
 subst a;exact Y0 c i d b w
def FC(e a b c d m:Nat)(wr:Bool):List Vl:=
 [.int .i64 e,.int .u8 a,.int .u8 b,.int .u8 c,.int .u8 d,.int .i64 m,.bool wr]
theorem Bb{f a c d e m:Nat}{wr:Bool}{b:Nat}{w:Wl}{T:Ti}(h:Ac w b (FC f a c d e m wr) T):
  b<w.heap.size/\(∀j,w.frozen? ⟨b,j,none⟩=false)/\w.cell? ⟨b,0,none⟩=some (.int .i64 f)/\w.cell? ⟨b,1,none⟩=some (.int .u8 a)/\w.cell? ⟨b,2,none⟩=some (.int .u8 c)/\
  w.cell? ⟨b,3,none⟩=some (.int .u8 d)/\w.cell? ⟨b,4,none⟩=some (.int .u8 e)/\w.cell? ⟨b,5,none⟩=some (.int .i64 m)/\w.cell? ⟨b,6,none⟩=some (.bool wr):=by
 refine⟨h.lt,fun j=>h.frozen j, ?_, ?_, ?_, ?_, ?_, ?_, ?_⟩
 all_goals(rw[h.cell];rfl)
theorem YV(c m g h i j:Nat)(wr:Bool)(b:Nat)(w:Wl)(a:Ac w b (FC m g h i j 0 wr) 290)(k:c<256)(d:Utf.AV c=0):
  Cl prog 176 #[.pointer (some ⟨b,0,none⟩),.int .u8 c] w fun e w'=>e= .returned (.bool false)/\AB w w' []:=by
 have c5:w.cell? ⟨b,5,none⟩=some (.int .i64 0):=by rw[a.cell];rfl
 have f:=hZ d;have o:=a.lt;have n:=hZ a;clear d a;go_enter func176,ntmps176
 go_wp2_with(first|(go_at_call 209;refine(Cn c k _).mono ?_;rintro e p ⟨rfl,l⟩;unfold PUtf.EX;rw[f.o]))
 go_ret
 exact⟨rfl,l.alloc _⟩
theorem XW(c m g h i j:Nat)(wr:Bool)(b:Nat)(w:Wl)(a:Ac w b (FC m g h i j 0 wr) 290)(k:c<256)(d:Utf.AV c=1):
  Cl prog 176 #[.pointer (some ⟨b,0,none⟩),.int .u8 c] w fun e w'=>e= .returned (.bool true)/\AB w w' []:=by
 have c5:w.cell? ⟨b,5,none⟩=some (.int .i64 0):=by rw[a.cell];rfl
 have f:=hZ d;have o:=a.lt;have n:=hZ a;clear d a;go_enter func176,ntmps176
 go_wp2_with(first|(go_at_call 209;refine(Cn c k _).mono ?_;rintro e p ⟨rfl,l⟩;unfold PUtf.EX;rw[f.o]))
 go_ret
 exact⟨rfl,l.alloc _⟩
theorem VS(c l p g h i:Nat)(wr:Bool)(b:Nat)(w:Wl)(a:Ac w b (FC l p g h i 0 wr) 290)(q:c<256)(k:2<=Utf.AV c):
  Cl prog 176 #[.pointer (some ⟨b,0,none⟩),.int .u8 c] w fun e w'=>e= .returned (.bool true)/\AB w w' [b]/\
   Ac w' b (FC l c g h i 1 wr) 290:=by
 have c5:w.cell? ⟨b,5,none⟩=some (.int .i64 0):=by rw[a.cell];rfl
 have r:((Utf.AV c:Int)==0)=false:=Qq.2 Zj;have s:1<(Utf.AV c:Int):=Zj
 have t:=hZ k;have E:=a.lt;have m:=hZ a;clear k a;obtain⟨n,d⟩:=Ue (Utf.AV c)
 have o:=hZ d;rw[<-d]at r s;clear d;go_enter func176,ntmps176
 go_wp2_with(first|(go_at_call 209;refine(Cn c q _).mono ?_;rintro e F ⟨rfl,j⟩;unfold PUtf.EX;rw[<-o.o];have f:=hZ (m.o.kept j.toChg);obtain⟨u,v,x,y,z,A,B,C,D⟩:=Bb f.o))
 go_ret
 exact⟨rfl,(((j.none [b]).setCell _ _ Zh).setCell _ _ Zh).alloc _,((f.o.set 1 _).set 5 _).alloc _⟩
def EI(f a b d e m n c:Nat)(wr:Bool):List Vl:=
 FC f a (if m=1 then c else b) (if m=2 then c else d) (if m=3 then c else e) (if m+1=n then 0 else m+1) wr
theorem XT(c j a g h i:Nat)(wr:Bool)(b:Nat)(w:Wl)(r:Ac w b (FC j a g h i 1 wr) 290)(x:a<256)(n:Nat)(z:n=Utf.AV a)(hw:1<n)(y:Utf.EL a 1 c=true):
  Cl prog 176 #[.pointer (some ⟨b,0,none⟩),.int .u8 c] w fun e w'=>e= .returned (.bool true)/\AB w w' [b]/\
   Ac w' b (EI j a g h i 1 n c wr) 290:=by
 obtain⟨T,U,V,W,X,Y,Z,f7,f8⟩:=Bb r;have A:2<=Utf.AV a:=Zj
 have o:=hZ z;have u:=hZ y;have t:=hZ r;have t0:((n:Int)==0)=false:=Qq.2 Zj;have v:=hZ A;clear z y r A;by_cases p:1+1=n
 .have s:((1+1:Int)==(n:Int))=true:=beq_iff_eq.2 Zj
  simp at s
  have q:Hid (EI j a g h i 1 n c wr=FC j a (if 1=1 then c else g) (if 1=2 then c else h) (if 1=3 then c else i) 0 wr):=by
   unfold Hid EI;rw[Qr p]
  clear p;go_enter func176,ntmps176
  go_wp2_with(first|(go_at_call 209;refine(Cn a x _).mono ?_;rintro e f ⟨rfl,m⟩;unfold PUtf.EX;rw[<-o.o];have k:=hZ (t.o.kept m.toChg);obtain⟨B,C,D,E,F,G,H,I,J⟩:=Bb k.o))
  go_region_held3(fun w'=>w'.cell? ⟨b,5,none⟩=some (.int .i64 1)/\w'.cell? ⟨f.heap.size,0,none⟩=some (.int .i64 n)/\w'.cell? ⟨f.heap.size,1,none⟩=some (.int .u8 (Utf.IP a))/\w'.cell? ⟨f.heap.size,2,none⟩=some (.int .u8 (Utf.EY a)))
   (first|go_keep|(refine⟨d.keeps ?_,d.keeps ?_,d.keeps ?_,d.keeps ?_⟩<;>go_keep))
   (first|(go_at_call 210;refine(Ep a 1 _ _ o.o v.o _).mono ?_;rintro e w2 ⟨rfl,d⟩))
  rw[u.o];have l:=hZ ((k.o.alloc _).drew.kept d.toChg);obtain⟨K,L,M,N,O,P,Q,R,S⟩:=Bb l.o;go_wp2
  go_region
  go_wp2
  go_quiet(fail)
  go_wp2
  go_ret
  have G2:=((m.alloc _).drew.trans d).none [b];refine⟨rfl,by(repeat(first|exact G2|with_reducible refine AB.drewN ?_ _|with_reducible refine AB.drew ?_|with_reducible refine AB.alloc ?_ _|with_reducible refine AB.setCell ?_ _ _ Zh|with_reducible refine AB.setCell ?_ _ _ (by simp;omega))), ?_⟩;rw[q.o]
  (apply Ac.eq;(·(repeat(first|exact l.o|with_reducible apply Ac.drewN|with_reducible apply Ac.drew|with_reducible apply Ac.alloc|with_reducible apply Ac.set|(with_reducible apply Ac.set_other;rotate_left;(.first|(simp;done)|(simp;omega))))));rfl)
 .have s:((1+1:Int)==(n:Int))=false:=Qq.2 Zj
  simp at s
  have q:Hid (EI j a g h i 1 n c wr=FC j a (if 1=1 then c else g) (if 1=2 then c else h) (if 1=3 then c else i) (1+1) wr):=by
   unfold Hid EI;rw[Qs p]
  clear p;go_enter func176,ntmps176
  go_wp2_with(first|(go_at_call 209;refine(Cn a x _).mono ?_;rintro e f ⟨rfl,m⟩;unfold PUtf.EX;rw[<-o.o];have k:=hZ (t.o.kept m.toChg);obtain⟨B,C,D,E,F,G,H,I,J⟩:=Bb k.o))
  go_region_held3(fun w'=>w'.cell? ⟨b,5,none⟩=some (.int .i64 1)/\w'.cell? ⟨f.heap.size,0,none⟩=some (.int .i64 n)/\w'.cell? ⟨f.heap.size,1,none⟩=some (.int .u8 (Utf.IP a))/\w'.cell? ⟨f.heap.size,2,none⟩=some (.int .u8 (Utf.EY a)))
   (first|go_keep|(refine⟨d.keeps ?_,d.keeps ?_,d.keeps ?_,d.keeps ?_⟩<;>go_keep))
   (first|(go_at_call 210;refine(Ep a 1 _ _ o.o v.o _).mono ?_;rintro e w2 ⟨rfl,d⟩))
  rw[u.o];have l:=hZ ((k.o.alloc _).drew.kept d.toChg);obtain⟨K,L,M,N,O,P,Q,R,S⟩:=Bb l.o;go_wp2
  go_region
  go_wp2
  go_quiet(fail)
  go_wp2
  go_ret
  have G2:=((m.alloc _).drew.trans d).none [b];refine⟨rfl,by(repeat(first|exact G2|with_reducible refine AB.drewN ?_ _|with_reducible refine AB.drew ?_|with_reducible refine AB.alloc ?_ _|with_reducible refine AB.setCell ?_ _ _ Zh|with_reducible refine AB.setCell ?_ _ _ (by simp;omega))), ?_⟩;rw[q.o]
  (apply Ac.eq;(·(repeat(first|exact l.o|with_reducible apply Ac.drewN|with_reducible apply Ac.drew|with_reducible apply Ac.alloc|with_reducible apply Ac.set|(with_reducible apply Ac.set_other;rotate_left;(.first|(simp;done)|(simp;omega))))));rfl)
theorem XU(c j a g h i:Nat)(wr:Bool)(b:Nat)(w:Wl)(r:Ac w b (FC j a g h i 2 wr) 290)(x:a<256)(n:Nat)(z:n=Utf.AV a)(hw:2<n)(y:Utf.EL a 2 c=true):
  Cl prog 176 #[.pointer (some ⟨b,0,none⟩),.int .u8 c] w fun e w'=>e= .returned (.bool true)/\AB w w' [b]/\
   Ac w' b (EI j a g h i 2 n c wr) 290:=by
 obtain⟨T,U,V,W,X,Y,Z,f7,f8⟩:=Bb r;have A:2<=Utf.AV a:=Zj
 have o:=hZ z;have u:=hZ y;have t:=hZ r;have t0:((n:Int)==0)=false:=Qq.2 Zj;have v:=hZ A;clear z y r A;by_cases p:2+1=n
 .have s:((2+1:Int)==(n:Int))=true:=beq_iff_eq.2 Zj
  simp at s
  have q:Hid (EI j a g h i 2 n c wr=FC j a (if 2=1 then c else g) (if 2=2 then c else h) (if 2=3 then c else i) 0 wr):=by
   unfold Hid EI;rw[Qr p]
  clear p;go_enter func176,ntmps176
  go_wp2_with(first|(go_at_call 209;refine(Cn a x _).mono ?_;rintro e f ⟨rfl,m⟩;unfold PUtf.EX;rw[<-o.o];have k:=hZ (t.o.kept m.toChg);obtain⟨B,C,D,E,F,G,H,I,J⟩:=Bb k.o))
  go_region_held3(fun w'=>w'.cell? ⟨b,5,none⟩=some (.int .i64 2)/\w'.cell? ⟨f.heap.size,0,none⟩=some (.int .i64 n)/\w'.cell? ⟨f.heap.size,1,none⟩=some (.int .u8 (Utf.IP a))/\w'.cell? ⟨f.heap.size,2,none⟩=some (.int .u8 (Utf.EY a)))
   (first|go_keep|(refine⟨d.keeps ?_,d.keeps ?_,d.keeps ?_,d.keeps ?_⟩<;>go_keep))
   (first|(go_at_call 210;refine(Ep a 2 _ _ o.o v.o _).mono ?_;rintro e w2 ⟨rfl,d⟩))
  rw[u.o];have l:=hZ ((k.o.alloc _).drew.kept d.toChg);obtain⟨K,L,M,N,O,P,Q,R,S⟩:=Bb l.o;go_wp2
  go_region
  go_wp2
  go_quiet(fail)
  go_wp2
  go_ret
  have G2:=((m.alloc _).drew.trans d).none [b];refine⟨rfl,by(repeat(first|exact G2|with_reducible refine AB.drewN ?_ _|with_reducible refine AB.drew ?_|with_reducible refine AB.alloc ?_ _|with_reducible refine AB.setCell ?_ _ _ Zh|with_reducible refine AB.setCell ?_ _ _ (by simp;omega))), ?_⟩;rw[q.o]
  (apply Ac.eq;(·(repeat(first|exact l.o|with_reducible apply Ac.drewN|with_reducible apply Ac.drew|with_reducible apply Ac.alloc|with_reducible apply Ac.set|(with_reducible apply Ac.set_other;rotate_left;(.first|(simp;done)|(simp;omega))))));rfl)
 .have s:((2+1:Int)==(n:Int))=false:=Qq.2 Zj
  simp at s
  have q:Hid (EI j a g h i 2 n c wr=FC j a (if 2=1 then c else g) (if 2=2 then c else h) (if 2=3 then c else i) (2+1) wr):=by
   unfold Hid EI;rw[Qs p]
  clear p;go_enter func176,ntmps176
  go_wp2_with(first|(go_at_call 209;refine(Cn a x _).mono ?_;rintro e f ⟨rfl,m⟩;unfold PUtf.EX;rw[<-o.o];have k:=hZ (t.o.kept m.toChg);obtain⟨B,C,D,E,F,G,H,I,J⟩:=Bb k.o))
  go_region_held3(fun w'=>w'.cell? ⟨b,5,none⟩=some (.int .i64 2)/\w'.cell? ⟨f.heap.size,0,none⟩=some (.int .i64 n)/\w'.cell? ⟨f.heap.size,1,none⟩=some (.int .u8 (Utf.IP a))/\w'.cell? ⟨f.heap.size,2,none⟩=some (.int .u8 (Utf.EY a)))
   (first|go_keep|(refine⟨d.keeps ?_,d.keeps ?_,d.keeps ?_,d.keeps ?_⟩<;>go_keep))
   (first|(go_at_call 210;refine(Ep a 2 _ _ o.o v.o _).mono ?_;rintro e w2 ⟨rfl,d⟩))
  rw[u.o];have l:=hZ ((k.o.alloc _).drew.kept d.toChg);obtain⟨K,L,M,N,O,P,Q,R,S⟩:=Bb l.o;go_wp2
  go_region
  go_wp2
  go_quiet(fail)
  go_wp2
  go_ret
  have G2:=((m.alloc _).drew.trans d).none [b];refine⟨rfl,by(repeat(first|exact G2|with_reducible refine AB.drewN ?_ _|with_reducible refine AB.drew ?_|with_reducible refine AB.alloc ?_ _|with_reducible refine AB.setCell ?_ _ _ Zh|with_reducible refine AB.setCell ?_ _ _ (by simp;omega))), ?_⟩;rw[q.o]
  (apply Ac.eq;(·(repeat(first|exact l.o|with_reducible apply Ac.drewN|with_reducible apply Ac.drew|with_reducible apply Ac.alloc|with_reducible apply Ac.set|(with_reducible apply Ac.set_other;rotate_left;(.first|(simp;done)|(simp;omega))))));rfl)
theorem XV(c j a g h i:Nat)(wr:Bool)(b:Nat)(w:Wl)(r:Ac w b (FC j a g h i 3 wr) 290)(x:a<256)(n:Nat)(z:n=Utf.AV a)(hw:3<n)(y:Utf.EL a 3 c=true):
  Cl prog 176 #[.pointer (some ⟨b,0,none⟩),.int .u8 c] w fun e w'=>e= .returned (.bool true)/\AB w w' [b]/\
   Ac w' b (EI j a g h i 3 n c wr) 290:=by
 obtain⟨T,U,V,W,X,Y,Z,f7,f8⟩:=Bb r;have A:2<=Utf.AV a:=Zj
 have o:=hZ z;have u:=hZ y;have t:=hZ r;have t0:((n:Int)==0)=false:=Qq.2 Zj;have v:=hZ A;clear z y r A;by_cases p:3+1=n
 .have s:((3+1:Int)==(n:Int))=true:=beq_iff_eq.2 Zj
  simp at s
  have q:Hid (EI j a g h i 3 n c wr=FC j a (if 3=1 then c else g) (if 3=2 then c else h) (if 3=3 then c else i) 0 wr):=by
   unfold Hid EI;rw[Qr p]
  clear p;go_enter func176,ntmps176
  go_wp2_with(first|(go_at_call 209;refine(Cn a x _).mono ?_;rintro e f ⟨rfl,m⟩;unfold PUtf.EX;rw[<-o.o];have k:=hZ (t.o.kept m.toChg);obtain⟨B,C,D,E,F,G,H,I,J⟩:=Bb k.o))
  go_region_held3(fun w'=>w'.cell? ⟨b,5,none⟩=some (.int .i64 3)/\w'.cell? ⟨f.heap.size,0,none⟩=some (.int .i64 n)/\w'.cell? ⟨f.heap.size,1,none⟩=some (.int .u8 (Utf.IP a))/\w'.cell? ⟨f.heap.size,2,none⟩=some (.int .u8 (Utf.EY a)))
   (first|go_keep|(refine⟨d.keeps ?_,d.keeps ?_,d.keeps ?_,d.keeps ?_⟩<;>go_keep))
   (first|(go_at_call 210;refine(Ep a 3 _ _ o.o v.o _).mono ?_;rintro e w2 ⟨rfl,d⟩))
  rw[u.o];have l:=hZ ((k.o.alloc _).drew.kept d.toChg);obtain⟨K,L,M,N,O,P,Q,R,S⟩:=Bb l.o;go_wp2
  go_region
  go_wp2
  go_quiet(fail)
  go_wp2
  go_ret
  have G2:=((m.alloc _).drew.trans d).none [b];refine⟨rfl,by(repeat(first|exact G2|with_reducible refine AB.drewN ?_ _|with_reducible refine AB.drew ?_|with_reducible refine AB.alloc ?_ _|with_reducible refine AB.setCell ?_ _ _ Zh|with_reducible refine AB.setCell ?_ _ _ (by simp;omega))), ?_⟩;rw[q.o]
  (apply Ac.eq;(·(repeat(first|exact l.o|with_reducible apply Ac.drewN|with_reducible apply Ac.drew|with_reducible apply Ac.alloc|with_reducible apply Ac.set|(with_reducible apply Ac.set_other;rotate_left;(.first|(simp;done)|(simp;omega))))));rfl)
 .have s:((3+1:Int)==(n:Int))=false:=Qq.2 Zj
  simp at s
  have q:Hid (EI j a g h i 3 n c wr=FC j a (if 3=1 then c else g) (if 3=2 then c else h) (if 3=3 then c else i) (3+1) wr):=by
   unfold Hid EI;rw[Qs p]
  clear p;go_enter func176,ntmps176
  go_wp2_with(first|(go_at_call 209;refine(Cn a x _).mono ?_;rintro e f ⟨rfl,m⟩;unfold PUtf.EX;rw[<-o.o];have k:=hZ (t.o.kept m.toChg);obtain⟨B,C,D,E,F,G,H,I,J⟩:=Bb k.o))
  go_region_held3(fun w'=>w'.cell? ⟨b,5,none⟩=some (.int .i64 3)/\w'.cell? ⟨f.heap.size,0,none⟩=some (.int .i64 n)/\w'.cell? ⟨f.heap.size,1,none⟩=some (.int .u8 (Utf.IP a))/\w'.cell? ⟨f.heap.size,2,none⟩=some (.int .u8 (Utf.EY a)))
   (first|go_keep|(refine⟨d.keeps ?_,d.keeps ?_,d.keeps ?_,d.keeps ?_⟩<;>go_keep))
   (first|(go_at_call 210;refine(Ep a 3 _ _ o.o v.o _).mono ?_;rintro e w2 ⟨rfl,d⟩))
  rw[u.o];have l:=hZ ((k.o.alloc _).drew.kept d.toChg);obtain⟨K,L,M,N,O,P,Q,R,S⟩:=Bb l.o;go_wp2
  go_region
  go_wp2
  go_quiet(fail)
  go_wp2
  go_ret
  have G2:=((m.alloc _).drew.trans d).none [b];refine⟨rfl,by(repeat(first|exact G2|with_reducible refine AB.drewN ?_ _|with_reducible refine AB.drew ?_|with_reducible refine AB.alloc ?_ _|with_reducible refine AB.setCell ?_ _ _ Zh|with_reducible refine AB.setCell ?_ _ _ (by simp;omega))), ?_⟩;rw[q.o]
  (apply Ac.eq;(·(repeat(first|exact l.o|with_reducible apply Ac.drewN|with_reducible apply Ac.drew|with_reducible apply Ac.alloc|with_reducible apply Ac.set|(with_reducible apply Ac.set_other;rotate_left;(.first|(simp;done)|(simp;omega))))));rfl)
theorem VP(c v a r s t:Nat)(wr:Bool)(b:Nat)(w:Wl)(f:Ac w b (FC v a r s t 1 wr) 290)(u:a<256)(n:Nat)(k:n=Utf.AV a)(P:1<n)(j:Utf.EL a 1 c=false):
  Cl prog 176 #[.pointer (some ⟨b,0,none⟩),.int .u8 c] w fun e w'=>e= .returned (.bool false)/\AB w w' []:=by
 obtain⟨x,y,z,A,B,C,D,E,F⟩:=Bb f;have l:2<=Utf.AV a:=Zj
 have h:=hZ k;have p:=hZ j;have m:=hZ f;have q:=hZ l;clear k j f l;go_enter func176,ntmps176
 go_wp2_with(first|(go_at_call 209;refine(Cn a u _).mono ?_;rintro e g ⟨rfl,i⟩;unfold PUtf.EX;rw[<-h.o];have o:=hZ (m.o.kept i.toChg);obtain⟨G,H,I,J,K,L,M,N,O⟩:=Bb o.o))
 go_region_held3(fun w'=>w'.cell? ⟨b,5,none⟩=some (.int .i64 1)/\w'.cell? ⟨g.heap.size,0,none⟩=some (.int .i64 n)/\w'.cell? ⟨g.heap.size,1,none⟩=some (.int .u8 (Utf.IP a))/\w'.cell? ⟨g.heap.size,2,none⟩=some (.int .u8 (Utf.EY a)))
  (first|go_keep|(refine⟨d.keeps ?_,d.keeps ?_,d.keeps ?_,d.keeps ?_⟩<;>go_keep))
  (first|(go_at_call 210;refine(Ep a 1 _ _ h.o q.o _).mono ?_;rintro e w2 ⟨rfl,d⟩))
 rw[p.o];go_wp2
 go_ret
 have G2:=(i.alloc _).drew.trans d;refine⟨rfl,by(repeat(first|exact G2|with_reducible refine AB.drewN ?_ _|with_reducible refine AB.drew ?_|with_reducible refine AB.alloc ?_ _|with_reducible refine AB.setCell ?_ _ _ Zh|with_reducible refine AB.setCell ?_ _ _ (by simp;omega)))⟩
theorem VQ(c v a r s t:Nat)(wr:Bool)(b:Nat)(w:Wl)(f:Ac w b (FC v a r s t 2 wr) 290)(u:a<256)(n:Nat)(k:n=Utf.AV a)(P:2<n)(j:Utf.EL a 2 c=false):
  Cl prog 176 #[.pointer (some ⟨b,0,none⟩),.int .u8 c] w fun e w'=>e= .returned (.bool false)/\AB w w' []:=by
 obtain⟨x,y,z,A,B,C,D,E,F⟩:=Bb f;have l:2<=Utf.AV a:=Zj
 have h:=hZ k;have p:=hZ j;have m:=hZ f;have q:=hZ l;clear k j f l;go_enter func176,ntmps176
 go_wp2_with(first|(go_at_call 209;refine(Cn a u _).mono ?_;rintro e g ⟨rfl,i⟩;unfold PUtf.EX;rw[<-h.o];have o:=hZ (m.o.kept i.toChg);obtain⟨G,H,I,J,K,L,M,N,O⟩:=Bb o.o))
 go_region_held3(fun w'=>w'.cell? ⟨b,5,none⟩=some (.int .i64 2)/\w'.cell? ⟨g.heap.size,0,none⟩=some (.int .i64 n)/\w'.cell? ⟨g.heap.size,1,none⟩=some (.int .u8 (Utf.IP a))/\w'.cell? ⟨g.heap.size,2,none⟩=some (.int .u8 (Utf.EY a)))
  (first|go_keep|(refine⟨d.keeps ?_,d.keeps ?_,d.keeps ?_,d.keeps ?_⟩<;>go_keep))
  (first|(go_at_call 210;refine(Ep a 2 _ _ h.o q.o _).mono ?_;rintro e w2 ⟨rfl,d⟩))
 rw[p.o];go_wp2
 go_ret
 have G2:=(i.alloc _).drew.trans d;refine⟨rfl,by(repeat(first|exact G2|with_reducible refine AB.drewN ?_ _|with_reducible refine AB.drew ?_|with_reducible refine AB.alloc ?_ _|with_reducible refine AB.setCell ?_ _ _ Zh|with_reducible refine AB.setCell ?_ _ _ (by simp;omega)))⟩
theorem VR(c v a r s t:Nat)(wr:Bool)(b:Nat)(w:Wl)(f:Ac w b (FC v a r s t 3 wr) 290)(u:a<256)(n:Nat)(k:n=Utf.AV a)(P:3<n)(j:Utf.EL a 3 c=false):
  Cl prog 176 #[.pointer (some ⟨b,0,none⟩),.int .u8 c] w fun e w'=>e= .returned (.bool false)/\AB w w' []:=by
 obtain⟨x,y,z,A,B,C,D,E,F⟩:=Bb f;have l:2<=Utf.AV a:=Zj
 have h:=hZ k;have p:=hZ j;have m:=hZ f;have q:=hZ l;clear k j f l;go_enter func176,ntmps176
 go_wp2_with(first|(go_at_call 209;refine(Cn a u _).mono ?_;rintro e g ⟨rfl,i⟩;unfold PUtf.EX;rw[<-h.o];have o:=hZ (m.o.kept i.toChg);obtain⟨G,H,I,J,K,L,M,N,O⟩:=Bb o.o))
 go_region_held3(fun w'=>w'.cell? ⟨b,5,none⟩=some (.int .i64 3)/\w'.cell? ⟨g.heap.size,0,none⟩=some (.int .i64 n)/\w'.cell? ⟨g.heap.size,1,none⟩=some (.int .u8 (Utf.IP a))/\w'.cell? ⟨g.heap.size,2,none⟩=some (.int .u8 (Utf.EY a)))
  (first|go_keep|(refine⟨d.keeps ?_,d.keeps ?_,d.keeps ?_,d.keeps ?_⟩<;>go_keep))
  (first|(go_at_call 210;refine(Ep a 3 _ _ h.o q.o _).mono ?_;rintro e w2 ⟨rfl,d⟩))
 rw[p.o];go_wp2
 go_ret
 have G2:=(i.alloc _).drew.trans d;refine⟨rfl,by(repeat(first|exact G2|with_reducible refine AB.drewN ?_ _|with_reducible refine AB.drew ?_|with_reducible refine AB.alloc ?_ _|with_reducible refine AB.setCell ?_ _ _ Zh|with_reducible refine AB.setCell ?_ _ _ (by simp;omega)))⟩
def LR(s:BY)(k h i m:Nat)(wr:Bool)(b:Nat)(w:Wl)(e:Ending)(w':Wl):Prop:=
 (e= .returned (.bool true)/\∃a d f g c:Nat,AB w w' [b]/\Ac w' b (FC h a d f g c wr) 290/\Utf.Inv s (k+1) c a)\/
 (e= .returned (.bool false)/\∃a d f g c:Nat,AB w w' [b]/\Ac w' b (FC h a d f g c wr) 290/\Utf.Al s=false)
theorem VT(s:BY)(k g a c d f m:Nat)(wr:Bool)(b:Nat)(w:Wl)(j:Ac w b (FC g a c d f m wr) 290)(i:Utf.Inv s k m a)(r:k<s.size):
  Cl prog 176 #[.pointer (some ⟨b,0,none⟩),.int .u8 (Utf.Aj s k)] w (LR s k g a m wr b w):=by
 have u:=Utf.Gb s k;by_cases z:m=0
 .subst z
  by_cases w0:Utf.AV (Utf.Aj s k)=0
  .exact(YV _ g a c d f wr b w j u w0).mono fun e w' ⟨n,h⟩=> .inr ⟨n,a,c,d,f,0,h.none _,j.kept h.toChg,Utf.WI i r w0⟩
  .by_cases y:Utf.AV (Utf.Aj s k)=1
   .exact(XW _ g a c d f wr b w j u y).mono fun e w' ⟨n,h⟩=> .inl ⟨n,a,c,d,f,0,h.none _,j.kept h.toChg,Utf.Uj i r y _⟩
   .exact(VS _ g a c d f wr b w j u Zj).mono fun e w' ⟨n,h,l⟩=> .inl ⟨n,_,c,d,f,1,h,l,Utf.QV i r Zj⟩
 .obtain⟨p,B,q⟩:=Utf.QW i Zj
  have x:m=1\/m=2\/m=3:=Zj
  cases l:Utf.EL a m (Utf.Aj s k)with
  |true=>
   have o:∀e w',(e= .returned (.bool true)/\AB w w' [b]/\Ac w' b (EI g a c d f m (Utf.AV a) (Utf.Aj s k) wr) 290)->LR s k g a m wr b w e w':=by
    rintro e w' ⟨n,h,t⟩;unfold EI at t;by_cases v:m+1=Utf.AV a
    .rw[Qr v]at t
     exact .inl ⟨n,a,_,_,_,0,h,t,Utf.QU i Zj r v l _⟩
    .rw[Qs v]at t
     exact .inl ⟨n,a,_,_,_,m+1,h,t,Utf.WH i Zj r Zj l⟩
   rcases x with rfl|rfl|rfl
   .exact(XT _ g a c d f wr b w j q _ rfl p l).mono o
   .exact(XU _ g a c d f wr b w j q _ rfl p l).mono o
   .exact(XV _ g a c d f wr b w j q _ rfl p l).mono o
  |false=>
   have A:=Utf.Ug i Zj r l
   have o:∀e w',(e= .returned (.bool false)/\AB w w' [])->LR s k g a m wr b w e w':=
    fun e w' ⟨n,h⟩=> .inr ⟨n,a,c,d,f,m,h.none _,j.kept h.toChg,A⟩
   rcases x with rfl|rfl|rfl
   .exact(VP _ g a c d f wr b w j q _ rfl p l).mono o
   .exact(VQ _ g a c d f wr b w j q _ rfl p l).mono o
   .exact(VR _ g a c d f wr b w j q _ rfl p l).mono o
theorem YZ(w:Wl):
  Cl prog 141 #[] w fun e w'=>e= .returned (.pointer (some ⟨w.heap.size,0,none⟩))/\w.alloc (.cells (FC 0 0 0 0 0 0 false).toArray 290)=w':=by
 go_enter func141,ntmps141
 go_wp2
 go_ret
 exact⟨rfl,rfl⟩
theorem Ke(b:Nat)(w:Wl)(h:w.cell? ⟨b,6,none⟩=some (.bool false)):
  Cl prog 177 #[.pointer (some ⟨b,0,none⟩)] w fun e w'=>e= .returned .nilIface/\w=w':=by
 go_enter func177,ntmps177
 go_wp2
 go_ret
 exact⟨rfl,rfl⟩
theorem F7(b:Nat)(n:Int)(w:Wl)(h:w.cell? ⟨b,6,none⟩=some (.bool true))(a:w.cell? ⟨b,0,none⟩=some (.int .i64 n)):
  Cl prog 177 #[.pointer (some ⟨b,0,none⟩)] w fun e w'=>e= .returned (.iface 52 (.agg #[.int .i64 30,.int .i64 n]))/\w=w':=by
 go_enter func177,ntmps177
 go_wp2
 go_ret
 exact⟨rfl,rfl⟩
def Wa(s:BY)(b:Nat)(w:Wl)(e:Ending)(w':Wl):Prop:=
 ∃(v:Vl) (g a c d f m:Nat) (wr:Bool),e= .returned v/\AB w w' [b]/\Ac w' b (FC g a c d f m wr) 290/\(Utf.Al s=true->wr=false/\m=0)/\(Utf.Al s=false->wr=true\/0<m)
theorem X4(s:BY)(hs:s.size<=2147483648)(b c P:Nat)(w:Wl)(u:Ac w b (FC 0 0 0 0 0 0 false) 290)(Q:c≠b)(R:c<w.heap.size)(F:∀i,i<s.size->w.cell? ⟨c,i,none⟩=some (.int .u8 (Utf.Aj s i))):
  Cl prog 142 #[.pointer (some ⟨b,0,none⟩),.slice (some ⟨c,0,none⟩) s.size P] w (Wa s b w):=by
 have I:=hZ u;have hb:=u.lt;have J:=hZ F;clear u F;go_enter func142,ntmps142
 go_wp2_with fail
 go_loopw [5] (fun i wr=>∃k j q r t m d:Nat,∃f:Bool,k<=s.size/\d<=k/\i= .int .i64 k/\AB w wr [b]/\Ac wr b (FC d j q r t m f) 290/\
   (f=false->Utf.Inv s k m j)/\(f=true->Utf.Al s=false)) (fun i _=>s.size-(intOf i).toNat)
 case atStart=>exact⟨0,0,0,0,0,0,0,false,Zj,Zj,rfl,AB.refl _ _,I.o,fun _=>Utf.N6 s 0,fun h=>by cases h⟩
 case round=>
  obtain⟨k,j,q,r,t,m,d,f,hk,aa,rfl,G,v,hi,A⟩:=hrel;obtain⟨g0,g1,E,c1,U,c3,c4,c5,o⟩:=Bb v;have g:=hZ v;have a:=hZ G;clear v G
  cases f with
  |true=>
   have D:=hZ (A rfl);clear A hi;by_cases y:k<s.size
   .go_wp2_with(first|(go_at_call 177;refine(F7 b _ _ o E).mono ?_;rintro e w' ⟨rfl,rfl⟩))
    go_ret
    exact⟨_,_,_,_,_,_,_,_,rfl,a.o,g.o,fun h=>(by rw[D.o]at h;cases h),fun _=> .inl rfl⟩
   .go_wp2_with(first|(go_at_call 177;refine(F7 b _ _ o E).mono ?_;rintro e w' ⟨rfl,rfl⟩))
    go_ret
    exact⟨_,_,_,_,_,_,_,_,rfl,a.o,g.o,fun h=>(by rw[D.o]at h;cases h),fun _=> .inl rfl⟩
  |false=>
   have n:=hZ (hi rfl);clear A hi;by_cases y:k<s.size
   .have V:wr.cell? ⟨c,k,none⟩=some (.int .u8 (Utf.Aj s k)):=(a.o.cell (p:=⟨c,k,none⟩) R (by simpa using Q)).trans (J.o k y)
    go_wp2_with(first|(go_at_call 176;refine(VT s k d j q r t m false b wr g.o n.o y).mono ?_;rintro e w2 (⟨rfl,K,L,M,N,O,x,l,S⟩|⟨rfl,K,L,M,N,O,x,l,T⟩)<;>(have B:=hZ l;have C:=hZ x;obtain⟨W,X,Y,Z,d4,d5,d6,d7,d8⟩:=Bb l;clear l x)))
    .go_roundw
     case rel=>
      have G2:=a.o.trans C.o;exact⟨k+1,_,_,_,_,_,d+1,false,Zj,Zj,by go_num,by(repeat(first|exact G2|with_reducible refine AB.drewN ?_ _|with_reducible refine AB.drew ?_|with_reducible refine AB.alloc ?_ _|with_reducible refine AB.setCell ?_ _ _ Zh|with_reducible refine AB.setCell ?_ _ _ (by simp;omega))),by(apply Ac.eq;(·(repeat(first|exact B.o|with_reducible apply Ac.drewN|with_reducible apply Ac.drew|with_reducible apply Ac.alloc|with_reducible apply Ac.set|(with_reducible apply Ac.set_other;rotate_left;(.first|(simp;done)|(simp;omega))))));rfl),fun _=>S,fun h=>(by cases h)⟩
     case measure=>simp[intOf];omega
    .go_roundw
     case rel=>
      have G2:=a.o.trans C.o;exact⟨k+1,_,_,_,_,_,d,true,Zj,Zj,by go_num,by(repeat(first|exact G2|with_reducible refine AB.drewN ?_ _|with_reducible refine AB.drew ?_|with_reducible refine AB.alloc ?_ _|with_reducible refine AB.setCell ?_ _ _ Zh|with_reducible refine AB.setCell ?_ _ _ (by simp;omega))),by(apply Ac.eq;(·(repeat(first|exact B.o|with_reducible apply Ac.drewN|with_reducible apply Ac.drew|with_reducible apply Ac.alloc|with_reducible apply Ac.set|(with_reducible apply Ac.set_other;rotate_left;(.first|(simp;done)|(simp;omega))))));rfl),fun h=>(by cases h),fun _=>T⟩
     case measure=>simp[intOf];omega
   .go_wp2_with(first|(go_at_call 177;refine(Ke b _ o).mono ?_;rintro e w' ⟨rfl,rfl⟩))
    go_ret
    have H:k=s.size:=Zj
    refine⟨_,_,_,_,_,_,_,_,rfl,a.o,g.o,fun h=>⟨rfl, ?_⟩,fun h=> .inr ?_⟩
    .have hi:=n.o
     rw[H]at hi;by_cases z:m=0
     .exact z
     .rw[Utf.Uh hi Zj]at h;cases h
    .have hi:=n.o
     rw[H]at hi;by_cases z:m=0
     .rw[z]at hi;rw[Utf.Ui hi]at h;cases h
     .omega
def Yf(ok:Bool)(v:Vl):Prop:=(ok=true/\v= .nilIface)\/(ok=false/\∃(n m:Int),v= .iface 52 (.agg #[.int .i64 n,.int .i64 m]))
theorem YY(o i j a k m:Nat)(wr ok:Bool)(b:Nat)(w:Wl)(g:Ac w b (FC o i j a k m wr) 290)(c:ok=true->wr=false/\m=0)(d:ok=false->wr=true\/0<m):
  Cl prog 143 #[.pointer (some ⟨b,0,none⟩)] w fun e w'=>∃v,e= .returned v/\Yf ok v/\w=w':=by
 obtain⟨q,r,h,c1,p,c3,c4,c5,f⟩:=Bb g;clear g
 cases ok with
 |true=>
  obtain⟨rfl,rfl⟩:=c rfl;clear c d;go_enter func143,ntmps143
  go_wp2_with(first|(go_at_call 177;refine(Ke b _ f).mono ?_;rintro e w' ⟨rfl,rfl⟩))
  go_ret
  exact⟨_,rfl,.inl ⟨rfl,rfl⟩,rfl⟩
 |false=>
  have a:=d rfl;clear c d;by_cases l:0<m
  .have n:0<(m:Int):=by omega
   clear a;go_enter func143,ntmps143
   go_wp2
   go_ret
   exact⟨_,rfl,.inr ⟨rfl,_,_,rfl⟩,rfl⟩
  .have n:¬0<(m:Int):=by omega
   obtain rfl:wr=true:=a.resolve_right l;clear a;go_enter func143,ntmps143
   go_wp2_with(first|(go_at_call 177;refine(F7 b _ _ f h).mono ?_;rintro e w' ⟨rfl,rfl⟩))
   go_ret
   exact⟨_,rfl,.inr ⟨rfl,_,_,rfl⟩,rfl⟩
theorem II(s:BY)(r:s.size<=2147483648)(a b:Nat)(w:Wl)(z:a<w.heap.size)(d:∀i,i<s.size->w.cell? ⟨a,i,none⟩=some (.int .u8 (Utf.Aj s i))):
  Cl prog 96 #[.slice (some ⟨a,0,none⟩) s.size b] w fun e w'=>∃v,e= .returned v/\Yf (Utf.Al s) v/\AB w w' []:=by
 have l:=hZ d;clear d;go_enter func96,ntmps96
 go_wp2_with(first
  |(go_at_call 141;refine(YZ _).mono ?_;rintro e w' ⟨rfl,rfl⟩)
  |(go_at_call 142;refine(X4 s r w.heap.size a b _ (Ac.new w _ _) Zj (by simp;omega) (fun i hi=>((AB.refl w []).alloc _).keeps (l.o i hi))).mono ?_;rintro e C ⟨v,A,t,u,x,y,m,wr,rfl,g,c,h,j⟩;have k:=hZ c;have o:=hZ g;have p:=hZ h;have q:=hZ j;clear c g h j)
  |(go_at_call 143;refine(YY _ _ _ _ _ _ _ _ _ _ k.o p.o q.o).mono ?_;rintro e w2 ⟨B,rfl,f,rfl⟩;have n:=hZ f;clear f))
 go_ret
 exact⟨_,rfl,n.o,((AB.refl w []).alloc _).fresh o.o Zh⟩
theorem In(s:BY)(w:Wl)(l:s.size<=2147483648):
  Cl prog 101 #[.string s] w fun e w'=>e= .returned (.bool (Utf.Al s))/\AB w w' []:=by
 obtain⟨h,r,p,o,j,c,b⟩:=GJ (P:=prog) w 9 196 5 s underlying9 underlying196 underlying5;have d:=hZ b;have g:=hZ c;clear b c;go_enter func101,ntmps101
 go_wp2_with(first|(go_at_call 96;refine(II s l w.heap.size h _ (by rw[g.o];omega) d.o).mono ?_;rintro e w2 ⟨q,rfl,i,k⟩;rcases i with⟨a,rfl⟩|⟨a,n,m,rfl⟩<;>(have f:=hZ a;clear a)))
 all_goals go_ret
 all_goals exact⟨Bo f.o.symm,j.trans k⟩
theorem Dq(s:BY)(w:Wl)(a:s.size<=2147483648):Cl prog 101 #[.string s] w fun e w'=>e= .returned (.bool (Utf.Al s))/\Chg w w' []:=
 (In s w a).mono fun e w' h=>⟨h.1,h.2.toChg⟩
end
section
open _root_.Go.Proofs.Tryz
open Go Go.RowKit
def Nn(x y:Int):Int:=if x<y then-1 else if y<x then 1 else 0
theorem Ua(x y:Int)(w:Wl):Cl prog 187 #[.int .i64 x,.int .i64 y] w fun e w'=>e= .returned (.int .i64 (Nn x y))/\w=w':=by
 unfold Nn;by_cases a:x<y
 .rw[Qr a]
  go_enter func187,ntmps187
  go_wp2
  go_ret
  exact⟨rfl,rfl⟩
 .rw[Qs a]
  by_cases b:y<x
  .rw[Qr b]
   go_enter func187,ntmps187
   go_wp2
   go_ret
   exact⟨rfl,rfl⟩
  .rw[Qs b]
   go_enter func187,ntmps187
   go_wp2
   go_ret
   exact⟨rfl,rfl⟩
theorem Zo(x y:Int)(w:Wl):Cl prog 189 #[.int .u8 x,.int .u8 y] w fun e w'=>e= .returned (.int .i64 (Nn x y))/\w=w':=by
 unfold Nn;by_cases a:x<y
 .rw[Qr a]
  go_enter func189,ntmps189
  go_wp2
  go_ret
  exact⟨rfl,rfl⟩
 .rw[Qs a]
  by_cases b:y<x
  .rw[Qr b]
   go_enter func189,ntmps189
   go_wp2
   go_ret
   exact⟨rfl,rfl⟩
  .rw[Qs b]
   go_enter func189,ntmps189
   go_wp2
   go_ret
   exact⟨rfl,rfl⟩
theorem X5(c:Nat)(w:Wl):Cl prog 188 #[.int .u8 c] w fun e w'=>e= .returned (.bool (decide (240<=(c:Int))))/\w=w':=by
 go_enter func188,ntmps188
 go_wp2
 go_ret
 exact⟨rfl,rfl⟩
theorem I6(a b:BY)(w:Wl)(y:a.size<=2147483648)(z:b.size<=2147483648)(p:Utf.Al a=true)(q:Utf.Al b=true):
  Cl prog 157 #[.string a,.string b] w fun e w'=>e= .returned (.int .i64 (Utf.BK a b))/\AB w w' []:=by
 have u:=hZ p;have x:=hZ q;clear p q;go_enter func157,ntmps157
 go_wp2_with(first
  |(go_at_call_of 101 (Vl.string a);refine(In a _ y).mono ?_;rintro e H ⟨rfl,A⟩;rw[u.o])
  |(go_at_call 101;refine(In b _ z).mono ?_;rintro e w2 ⟨rfl,B⟩;rw[x.o]))
 go_loopw [7] (fun v wr=>∃i:Nat,v= .int .i64 i/\i<=a.size/\i<=b.size/\AB w wr []/\Utf.F5 ((Utf.CB a).drop i) ((Utf.CB b).drop i)=Utf.BK a b) (fun v _=>a.size-(intOf v).toNat)
 case atStart=>exact⟨0,rfl,Zj,Zj,A.trans B,rfl⟩
 case round=>
  obtain⟨i,rfl,E,F,o,n⟩:=hrel;have j:=hZ o;have h:=hZ n;clear o n;by_cases k:i<a.size
  .by_cases g:i<b.size
   .have l:=hZ (Utf.BV k)
    have m:=hZ (Utf.BV g);by_cases f:a[i].toNat=b[i].toNat
    .have C:((a[i].toNat:Int)==(b[i].toNat:Int))=true:=by simp[f]
     have c:Utf.F5 ((Utf.CB a).drop (i+1)) ((Utf.CB b).drop (i+1))=Utf.BK a b:=by
      rw[<-h.o,Utf.Bh k,Utf.Bh g];simp only[Utf.F5];rw[Qr (by rw[l.o,m.o];exact f)]
     have d:=hZ c;clear c f;go_wp2
     go_quiet(fail)
     go_wp2
     go_roundw
     case rel=>exact⟨i+1,by go_num,Zj,Zj,by exact cd (j.o),d.o⟩
     case measure=>simp[intOf];omega
    .have C:((a[i].toNat:Int)==(b[i].toNat:Int))=false:=by rw[Qq];omega
     have r:((i:Int)==(a.size:Int))=false:=by rw[Qq];omega
     have D:((i:Int)==(b.size:Int))=false:=by rw[Qq];omega
     have c:Utf.BK a b=Utf.BT a[i].toNat b[i].toNat:=by
      rw[<-h.o,Utf.Bh k,Utf.Bh g];simp only[Utf.F5];rw[Qs (by rw[l.o,m.o];exact f),l.o,m.o]
     have d:=hZ c;have t:=hZ f;clear c f;go_wp2
     go_quiet(fail)
     go_wp2
     go_quiet(fail)
     go_wp2_with(first
      |(go_at_call 188;refine(X5 _ _).mono ?_;rintro e w' ⟨rfl,rfl⟩)
      |(go_at_call 189;refine(Zo _ _ _).mono ?_;rintro e w' ⟨rfl,rfl⟩))
     all_goals go_ret
     all_goals refine⟨E5 ?_,by exact cd (j.o)⟩
     all_goals go_light
     all_goals rw[d.o]
     all_goals have G:=t.o
     all_goals unfold Utf.BT
     all_goals(try unfold Nn)
     all_goals repeat' split
     all_goals first|rfl|omega|(simp at*;omega)
   .have r:((i:Int)==(a.size:Int))=false:=by rw[Qq];omega
    have D:((i:Int)==(b.size:Int))=true:=by rw[beq_iff_eq];omega
    have c:Utf.BK a b=Nn a.size b.size:=by
     rw[<-h.o,Utf.Bh k,Utf.Fe (s:=b) Zj];simp only[Utf.F5,Nn];rw[Qs Zj,Qr Zj]
    have d:=hZ c;clear c;go_wp2
    go_quiet(fail)
    go_wp2_with(first|(go_at_call 187;refine(Ua _ _ _).mono ?_;rintro e w' ⟨rfl,rfl⟩))
    go_ret
    exact⟨E5 d.o.symm,by exact cd (j.o)⟩
  .have r:((i:Int)==(a.size:Int))=true:=by rw[beq_iff_eq];omega
   have c:Utf.BK a b=Nn a.size b.size:=by
    rw[<-h.o,Utf.Fe (s:=a) Zj];by_cases g:i<b.size
    .rw[Utf.Bh g]
     simp only[Utf.F5,Nn];rw[Qr Zj]
    .rw[Utf.Fe (s:=b) Zj]
     simp only[Utf.F5,Nn];rw[Qs Zj,Qs Zj]
   have d:=hZ c;clear c;go_wp2
   go_quiet(fail)
   go_wp2_with(first|(go_at_call 187;refine(Ua _ _ _).mono ?_;rintro e w' ⟨rfl,rfl⟩))
   go_ret
   exact⟨E5 d.o.symm,by exact cd (j.o)⟩
theorem FX(a b:BY)(w:Wl)(c:a.size<=2147483648)(d:b.size<=2147483648)(f:Utf.Al a=true)(g:Utf.Al b=true):
  Cl prog 157 #[.string a,.string b] w fun e w'=>e= .returned (.int .i64 (Utf.BK a b))/\Chg w w' []:=
 (I6 a b w c d f g).mono fun e w' h=>⟨h.1,h.2.toChg⟩
end
end Go.Proofs.YtkfnkppdhcaeoaaGreatDoor

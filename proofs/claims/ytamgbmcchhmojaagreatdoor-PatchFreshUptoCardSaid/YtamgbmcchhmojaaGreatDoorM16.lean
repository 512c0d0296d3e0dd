/- Part 16 of the proof of patchFresh_card. -/
import Derived.Lib.SplitLaws
import Derived.Test.YtamgbmcchhmojaaGreatDoorM14
import Derived.Test.YtamgbmcchhmojaaGreatDoorM15
set_option maxRecDepth 100000
set_option maxHeartbeats 32000000
set_option linter.all false
namespace Go.Proofs.YtamgbmcchhmojaaGreatDoor
open Go renaming Calls->Cl,TypeId->Ti,Value->Vl,World->Wl
open Go.Value renaming agg->nA,iface->nF,int->nI,pointer->nP,slice->nS,string->nG,tuple->nT
open Go.IntKind renaming i64->nX
open Go.Ending renaming returned->nR
open Go.Obj renaming cells->nC
open Option renaming none->nN,some->nM
section
open _root_.Go.Proofs.Tryz
open Go Go.Shelf Go.RowKit Go.Lib Tree Ptr
variable{s:BY}{i n:Nat}{p:Prop}{v:Vl}{w:Wl}
def Em(s:BY)(n:Nat):Option Nat:=if s=IN then nM n else bL s (n+1)
def ND(s:BY):Nat:=if(D5 s.data.toList).isSome=true then 4 else 172
def Dn(s:BY)(n:Nat)(w:Wl)(e:Ending)(w':Wl):Prop:=
 Chg w w' []/\match Em s n with
  |some i=>e= nR (nI nX i)
  |none=>e=By (ND s)
theorem MG(h:Em s n=nM i):Dn s n w=fun e w'=>Chg w w' []/\e= nR (nI nX i):=by funext e w';unfold Dn;rw[h]
theorem TG(h:Em s n=nN):Dn s n w=fun e w'=>Chg w w' []/\e=By (ND s):=by funext e w';unfold Dn;rw[h]
theorem RN(h:Em s n=nM i):Dn s n=fun w e w'=>Chg w w' []/\e= nR (nI nX i):=by funext w e w';unfold Dn;rw[h]
theorem RM(h:Em s n=nN):Dn s n=fun w e w'=>Chg w w' []/\e=By (ND s):=by funext w e w';unfold Dn;rw[h]
theorem WR(s:BY)(w:Wl)(a:s.size<=2147483648):Cl prog 173 #[nG s,nG ⟨#[48,49,50,51,52,53,54,55,56,57]⟩] w fun e w'=>e= nR (nG ⟨(Lib.trimS s.data.toList L1).toArray⟩)/\Chg w w' []:=
 (Any.strings_Trim_laid cr Yb s ⟨#[48,49,50,51,52,53,54,55,56,57]⟩ w Zj ZM (ascii_of_all ZM)).mono fun _ _ h=>⟨h.1,DI h.2⟩
theorem Yz(h:s≠IN):(s.toList==[45])=false:=by
 rw[Qq,Lib.toList_data];intro e;exact h (DK e)
theorem wo(h:p:=by exact cg cR):p:=h
theorem wt(h:p:=by first|(exact cg z.o;done)|exact cg l.o):p:=h
theorem wF(h:p:=by exact cg d.o):p:=h
theorem YI(s:BY)(n:Nat)(w:Wl)(K:Br w)(hs:s.size<=16777216)(hn:n<=4294967296):Cl prog 134 #[nG s,nI nX n] w (Dn s n w):=by
 by_cases L:s=IN
 .subst L;have F:Em IN n=nM n:=by unfold Em;rw[Qr rfl]
  rw[MG F];have f:(IN.toList==[45])=true:=by rw[beq_iff_eq,Lib.toList_data];rfl
  clear K F;go_enter func134,ntmps134;go_wp2_with fail;go_ret;exact⟨by exact cg cR,rfl⟩
 .have f:=Yz L;have M:Em s n=bL s (n+1):=by unfold Em;rw[Qs L]
  have u:=UD (∀a,Chg w a []->Cl prog 138 #[nG s,nI nX ((n:Int)+1)] a fun e w'=>e= nR (Je s (n+1))/\Chg a w' []) fun a R=>by
   have:=Gl s (n+1) a (K.kept R) Zj Zj;rwa[show(((n+1:Nat):Int))=(n:Int)+1 from by omega]at this
  have t:=UD (∀a,Chg w a []->Cl prog 138 #[nG s,nI nX 9223372036854775807] a fun e w'=>e= nR (Je s 9223372036854775807)/\Chg a w' []) fun a R=>
   Gl s 9223372036854775807 a (K.kept R) Zj Zj
  clear K L;cases hi:bL s (n+1)with
  |some i=>
   rw[MG (M.trans hi)];unfold Je at u;rw[hi]at u;clear M hi t;go_enter func134,ntmps134
   go_wp2_with(first
    |(go_at_call 138;refine(u.o _ wo).mono ?_;rintro e v ⟨rfl,c⟩;have d:=UD (Chg w v []) (ct cR c);clear c))
   go_ret;exact⟨by exact cg d.o,rfl⟩
  |none=>
   rw[TG (M.trans hi)];unfold Je at u t;rw[hi]at u;clear M hi;obtain⟨I,Q⟩:=Ue (⟨(Lib.trimS s.data.toList L1).toArray⟩:BY);have J:=UD (∀a,Cl prog 173 #[nG s,nG ⟨#[48,49,50,51,52,53,54,55,56,57]⟩] a fun e w'=>e= nR (nG I)/\Chg a w' []) fun a=>by rw[Q];exact WR s a Zj
   have C:I.data.toList=Lib.trimS s.data.toList L1:=by rw[Q]
   clear Q;have X:∀(x:BY),x.data.toList=[]->x.toList.isEmpty=true:=fun x h=>by rw[Lib.toList_data,h];rfl
   have Y:∀(x:BY),x.data.toList≠[]->x.toList.isEmpty=false:=fun x h=>by
    rw[Lib.toList_data];cases e:x.data.toList with
    |nil=>exact absurd e h
    |cons _ _=>rfl
   have Z:s.data.toList≠[]->0<s.size:=fun h=>by
    have:s.data.toList.length=s.size:=Array.length_toList;have:=List.length_pos_iff.2 h;omega
   have aa:∀(h:0<s.size),s.data.toList.head? =nM s[0]:=fun h=>by
    rw[List.head?_eq_getElem?,Array.getElem?_toList,Array.getElem?_eq_getElem h];rfl
   have N:=hZ X;have O:=hZ Y;have T:=hZ Z;have U:=hZ aa;clear X Y Z aa;by_cases B:(D5 s.data.toList).isSome=true
   .have H:ND s=4:=by unfold ND;rw[Qr B]
    rw[H];obtain⟨q,y,r⟩:=Ro.1 B;have V:=O.o s q;have W:=N.o I (by rw[C,y]);have F:=T.o q;have j:=U.o F
    have ad:((s[0].toNat:Int) !=48)=true\/(((s[0].toNat:Int) !=48)=false/\(s.toList==[48])=true):=by
     rcases r with r|r
     .left
      rw[j]at r;rw[bne_iff_ne];intro g;have g2:s[0].toNat=48:=Zj;have g3:s[0]=(48:UInt8):=UInt8.toNat_inj.1 (by simpa using g2);exact r (by rw[g3])
     .right
      rw[r]at j;injection j with j
      refine⟨by rw[<-j];rfl,by rw[beq_iff_eq,Lib.toList_data,r]⟩
    clear H B q y r C j;rcases ad with q1|⟨q1,q2⟩
    all_goals
     cases G:bL s 9223372036854775807
     all_goals
      rw[G]at t;simp only at t;clear G;go_enter func134,ntmps134
      go_wp2_with(first
     |(go_at_call_of 138 (Vl.int nX 9223372036854775807);refine(t.o _ wF).mono ?_;rintro e w2 ⟨rfl,m⟩;have l:=UD (Chg w w2 []) (ct d.o m);clear m)
     |(go_at_call 138;refine(u.o _ wo).mono ?_;rintro e v ⟨rfl,c⟩;have d:=UD (Chg w v []) (ct cR c);clear c)
     |(go_at_call 173;refine(J.o _).mono ?_;rintro e D ⟨rfl,o⟩;have z:=UD (Chg w D []) (ct l.o o);clear o)
     |(go_at_call_of 30 (Vl.bool true);refine(Bv _ _).mono ?_;rintro e S ⟨rfl,rfl⟩)
     |(go_at_call 30;refine(Bu _ _).mono ?_;rintro e E ⟨f,p⟩;unfold By at f;subst f;have A:=UD (Chg w E []) (Chg.trans (b:=_) wt p);clear p))
      exact⟨rfl,A.o,rfl⟩
   .have H:ND s=172:=by unfold ND;rw[Qs B]
    have P:D5 s.data.toList=nN:=by cases h:D5 s.data.toList with
     |none=>rfl
     |some k=>rw[h]at B;simp at B
    have G:bL s 9223372036854775807=nN:=by unfold bL;rw[P]
    rw[G]at t;simp only at t;rw[H];have ab:=hZ P;clear H B G P;by_cases q:s.data.toList=[]
    .have V:=N.o s q;clear q C;go_enter func134,ntmps134
     go_wp2_with(first
     |(go_at_call_of 138 (Vl.int nX 9223372036854775807);refine(t.o _ wF).mono ?_;rintro e w2 ⟨rfl,m⟩;have l:=UD (Chg w w2 []) (ct d.o m);clear m)
     |(go_at_call 138;refine(u.o _ wo).mono ?_;rintro e v ⟨rfl,c⟩;have d:=UD (Chg w v []) (ct cR c);clear c)
     |(go_at_call 173;refine(J.o _).mono ?_;rintro e D ⟨rfl,o⟩;have z:=UD (Chg w D []) (ct l.o o);clear o)
     |(go_at_call_of 30 (Vl.bool true);refine(Bv _ _).mono ?_;rintro e S ⟨rfl,rfl⟩)
     |(go_at_call 30;refine(Bu _ _).mono ?_;rintro e E ⟨f,p⟩;unfold By at f;subst f;have A:=UD (Chg w E []) (Chg.trans (b:=_) wt p);clear p))
     exact⟨rfl,A.o,rfl⟩
    .have V:=O.o s q;have F:=T.o q;by_cases y:Lib.trimS s.data.toList L1=[]
     .have W:=N.o I (by rw[C,y]);obtain⟨r,n4⟩:=Xf ab.o q y;have j:=U.o F;rw[r]at j;injection j with j
      have q1:((s[0].toNat:Int) !=48)=false:=by rw[<-j];rfl
      have q2:(s.toList==[48])=false:=by rw[Qq,Lib.toList_data];exact n4
      clear q y r n4 C j;go_enter func134,ntmps134
      go_wp2_with(first
     |(go_at_call_of 138 (Vl.int nX 9223372036854775807);refine(t.o _ wF).mono ?_;rintro e w2 ⟨rfl,m⟩;have l:=UD (Chg w w2 []) (ct d.o m);clear m)
     |(go_at_call 138;refine(u.o _ wo).mono ?_;rintro e v ⟨rfl,c⟩;have d:=UD (Chg w v []) (ct cR c);clear c)
     |(go_at_call 173;refine(J.o _).mono ?_;rintro e D ⟨rfl,o⟩;have z:=UD (Chg w D []) (ct l.o o);clear o)
     |(go_at_call_of 30 (Vl.bool true);refine(Bv _ _).mono ?_;rintro e S ⟨rfl,rfl⟩)
     |(go_at_call 30;refine(Bu _ _).mono ?_;rintro e E ⟨f,p⟩;unfold By at f;subst f;have A:=UD (Chg w E []) (Chg.trans (b:=_) wt p);clear p))
      exact⟨rfl,A.o,rfl⟩
     .have W:=O.o I (by rw[C];exact y);clear q y C;go_enter func134,ntmps134
      go_wp2_with(first
     |(go_at_call_of 138 (Vl.int nX 9223372036854775807);refine(t.o _ wF).mono ?_;rintro e w2 ⟨rfl,m⟩;have l:=UD (Chg w w2 []) (ct d.o m);clear m)
     |(go_at_call 138;refine(u.o _ wo).mono ?_;rintro e v ⟨rfl,c⟩;have d:=UD (Chg w v []) (ct cR c);clear c)
     |(go_at_call 173;refine(J.o _).mono ?_;rintro e D ⟨rfl,o⟩;have z:=UD (Chg w D []) (ct l.o o);clear o)
     |(go_at_call_of 30 (Vl.bool true);refine(Bv _ _).mono ?_;rintro e S ⟨rfl,rfl⟩)
     |(go_at_call 30;refine(Bu _ _).mono ?_;rintro e E ⟨f,p⟩;unfold By at f;subst f;have A:=UD (Chg w E []) (Chg.trans (b:=_) wt p);clear p))
      exact⟨rfl,A.o,rfl⟩
theorem Ij(a:UInt8)(new:List UInt8):∀(l:List UInt8),(F6 a new l).length<=l.length*(new.length+1)
 |[]=>by simp[F6]
 |c::r=>by
  have:=Ij a new r;simp only[F6,Qk,Qj,Nat.add_mul,Nat.one_mul];split<;>simp<;>omega
theorem wH(h:p:=by simp[ByteArray.size]):p:=h
theorem Og(s:BY)(a:UInt8)(new:List UInt8)(w:Wl)(c:Br w)(j:s.size<=134217728)(f:new.length<=16)(g:[a]≠new):
  Cl prog 85 #[nG s,nG ⟨#[a]⟩,nG ⟨new.toArray⟩] w fun e w'=>e= nR (nG ⟨(F6 a new s.data.toList).toArray⟩)/\Chg w w' []:=by
 have d:=countB_le ⟨#[a]⟩ (Q8 1) s.size s (Q8 _);have i:(⟨new.toArray⟩:BY).size=new.length:=wH
 have:=Rj s ⟨#[a]⟩ ⟨new.toArray⟩ w c Zj (Q8 1) (by rw[i];have:=Nat.mul_le_mul d f;omega);refine this.mono fun e w' h=>⟨?_,h.2⟩;rw[h.1];have b:=R0 a new s.data.toList g;simp only[List.toList_toArray]at b|-;rw[<-b]
theorem TI(s:BY)(w:Wl)(d:Br w)(q:s.size<=16777216):
  Cl prog 195 #[nG s] w fun e w'=>e= nR (nG ⟨(47::esc s.data.toList).toArray⟩)/\Chg w w' []:=by
 have f:=Ij 126 [126,48] s.data.toList;have n:s.data.toList.length=s.size:=Array.length_toList;have a:=Og s 126 [126,48] w d Zj ZM ZM;obtain⟨t,c⟩:=Ue (⟨(F6 126 [126,48] s.data.toList).toArray⟩:BY);rw[<-c]at a;have j:t.size<=134217728:=by rw[c];simp only[ByteArray.size,List.size_toArray];simp only[Qj,List.length_nil]at f;omega
 have l:=hZ a
 have m:=UD (∀b,Chg w b []->Cl prog 85 #[nG t,nG ⟨#[47]⟩,nG ⟨#[126,49]⟩] b fun e w'=>e= nR (nG ⟨(esc s.data.toList).toArray⟩)/\Chg b w' []) fun b o=>
  (Og t 47 [126,49] b (d.kept o) j ZM ZM).mono fun e w' h=>⟨by rw[h.1,<-Pa,c],h.2⟩
 have g:=Ij 47 [126,49] (F6 126 [126,48] s.data.toList);rw[Pa]at g;have p:¬(9223372036854775807<1+(esc s.data.toList).length):=by simp only[Qj,List.length_nil]at f g;omega
 clear f g n a c j d;go_enter func195,ntmps195
 go_wp2_with(first
  |(go_at_call_of 85 (Vl.string s);refine l.o.mono ?_;rintro e r ⟨rfl,a⟩;have i:=hZ a;clear a)
  |(go_at_call 85;refine(m.o _ (by exact cg i.o)).mono ?_;rintro e w2 ⟨rfl,a⟩;have k:=UD (Chg w w2 []) (ct i.o a);clear a))
 go_ret;exact⟨TM (DK Zh),by exact cg k.o⟩
theorem JD{T e:Ti}{B b:Nat}{bs:List Vl}{w':Wl}(h:Lib.IsBuilder T e B b bs w)(d:Chg w w' []):Lib.IsBuilder T e B b bs w':=by
 have i:∀p,Lib.BuilderAt T e B b p bs w->Lib.BuilderAt T e B b p bs w':=by
  rintro p ⟨k,v,c,⟨l,a⟩,m⟩;refine⟨k,v,(d.block b (Array.getElem?_eq_some_iff.1 c).1 Zh).trans c,⟨l, ?_⟩,m⟩;rcases a with a|⟨g,cap,j,o,n,f,r⟩
  .exact .inl a
  .exact .inr ⟨g,cap,j,o,n,(d.block g (Array.getElem?_eq_some_iff.1 f).1 Zh).trans f,r⟩
 exact h.imp (i _) (i _)
theorem U7(b:Nat)(bs:List Vl)(s:BY)(B:Nat)(w:Wl)(h:Lib.IsBuilder 256 5 B b bs w)(g:bs.length+s.size<=140737488355328)(f:B<=w.heap.size):
  Cl prog 145 #[nP (nM ⟨b,0,nN⟩),nG s] w fun e w'=>e= nR (nT #[nI nX s.size,.nilIface])/\Lib.IsBuilder 256 5 B b (bs++Lib.strCells s) w'/\Below B w w':=
 (Any.Builder_WriteString {bM with} Of B b bs s w h g f).mono fun _ _ ⟨a,c,d⟩=>⟨a,.inr c,d⟩
theorem Te:Builder.Extra prog bI where
 sizeBuilder:=Yb
 liesBuilder:=Yb
 t5:=underlying5
 a5:=isAgg5
 z5:=sizeOf5
 v5:=zeroValue5
 infoByte:=Yb
 cellsByte:=Yb
 sizeByte:=Yb
 neB5:=ZM
theorem Tf(b B:Nat)(l:List UInt8)(w:Wl)(h:Lib.IsBuilder 256 5 B b (Lib.byteCells l) w)(a:B<=w.heap.size):
 Cl prog 147 #[nP (nM ⟨b,0,nN⟩)] w fun e w'=>e= nR (nG ⟨l.toArray⟩)/\Below B w w':=Any.Builder_String_any cw Te B b l w h a
theorem RO(a:List (List UInt8))(t:List UInt8):Bl (a++[t])=Bl a++(47::esc t):=by
 induction a with
 |nil=>simp[Bl]
 |cons x r b=>simp[Bl,b]
theorem MY(s:BY):Lib.strCells s=Lib.byteCells s.data.toList:=by
 first|rfl|simp[Lib.strCells,Lib.byteCells]
theorem Kh(a b:List UInt8):Lib.byteCells (a++b)=Lib.byteCells a++Lib.byteCells b:=by simp[Lib.byteCells]
theorem IT{a b c:Wl}(h:Chg a b [])(k:Below a.heap.size b c):Chg a c []:=
 ⟨k.os.trans h.os,k.tape.trans h.tape,k.output.trans h.output,Q7 h.size k.size,fun i hi d=>(k.block i hi).trans (h.block i hi d)⟩
theorem Uc(l:List UInt8):(esc l).length<=l.length*9:=by
 have b:=Ij 126 [126,48] l;have a:=Ij 47 [126,49] (F6 126 [126,48] l);rw[Pa]at a;simp only[Qj,List.length_nil]at b a;omega
theorem Oq(m:Nat):∀(ts:List (List UInt8)),(∀t∈ts,t.length<=m)->(Bl ts).length<=ts.length*(m*9+1)
 |[],_=>by simp[Bl]
 |t::r,h=>by
  have a:=Oq m r (fun x b=>h x (by simp[b]));have c:=Uc t;have d:=h t Zh;simp only[Bl,Qk,Qj,Nat.add_mul,Nat.one_mul]at a|-;simp only[Nat.mul_add,Nat.mul_one]at a|-;omega
theorem Ot(F:Nat->Prop)(G:Vl)(ts:List BY)(w:Wl)(y:Br w)(D:Ax w F G (Ad ts))(P:∀b,F b->b<w.heap.size)(B:∀s∈ts,Utf.Al s=true)(E:∀s∈ts,s.size<=16777216)(hn:ts.length<=65536):
  Cl prog 167 #[G] w fun e w'=>e= nR (nT #[nG (A6 ts),.nilIface])/\Chg w w' []:=by
 obtain⟨a,c,rfl,z⟩:=D.cell;rw[Ao];have I:=hZ z;have J:=hZ y;have L:=hZ B;have v:=hZ E;clear D P y z B E;go_enter func167,ntmps167;go_wp2_with fail;go_loopw [13] (fun r wr=>∃k:Nat,k<=ts.length/\r= nI nX k/\Lib.IsBuilder 256 5 w.heap.size w.heap.size (Lib.byteCells (Bl ((ts.take k).map fun t=>t.data.toList))) wr/\Chg w wr []) (fun r _=>ts.length-(intOf r).toNat)
 case atStart=>exact⟨0,Zj,rfl,by simpa[Bl,Lib.byteCells]using Lib.fresh_isBuilder 256 5 w,by exact cg cR⟩
 case round=>
  obtain⟨k,hk,rfl,h,f⟩:=hrel;by_cases T:k<ts.length
  .obtain⟨s,l⟩:∃s,ts[k]? =nM s:=⟨_,Q9 T⟩;obtain⟨Z,go,rfl,aa,A⟩:=I.o k (nG s) (by simp[Ad,l]);have ab:=f.keeps A;have p:=Qi l;have V:=v.o s p;have U:=L.o s p
   have C:=Oq 16777216 ((ts.take k).map fun t=>t.data.toList) (fun t W=>by
    obtain⟨x,q,rfl⟩:=List.mem_map.1 W;have:=v.o x (List.mem_of_mem_take q)
    rw[Array.length_toList];exact this)
   rw[List.length_map,Ql]at C;have Q:=Uc s.data.toList;have R:s.data.toList.length=s.size:=Array.length_toList;have M:=UD (∀i,Chg wr i []->Cl prog 195 #[nG s] i fun e w'=>e= nR (nG ⟨(47::esc s.data.toList).toArray⟩)/\Chg i w' []) fun i q=>TI s i (J.o.kept (f.trans q)) V;have o:=hZ h;have j:=hZ f;have N:=hZ l
   have K:=UD ((Bl ((ts.take k).map fun t=>t.data.toList)).length+(⟨(47::esc s.data.toList).toArray⟩:BY).size<=140737488355328) (by
    have:(⟨(47::esc s.data.toList).toArray⟩:BY).size=(esc s.data.toList).length+1:=wH
    rw[this];omega)
   have O:=hZ f.size;clear h f l C Q R A p
   go_wp2_with(first
    |(go_at_call 69;refine(Dq s _ Zj).mono ?_;rintro e X ⟨rfl,d⟩;rw[U];have u:=UD (Chg wr X []) d;clear d)
    |(go_at_call 195;refine(M.o _ (by exact cg u.o)).mono ?_;rintro e w2 ⟨rfl,d⟩;have m:=UD (Chg wr w2 []) (ct u.o d);clear d)
    |(go_at_call 145;refine(U7 w.heap.size _ _ w.heap.size _ (JD o.o (by exact cg m.o)) (by simpa[Lib.byteCells]using K.o) (by have:=Q7 O.o m.o.size;simpa using this)).mono ?_;rintro e Y ⟨rfl,d,g⟩;have H:=hZ d;have n:=hZ g;clear d g))
   go_roundw
   case rel=>
    refine⟨k+1,Zj,by go_num, ?_, ?_⟩
    .have:=H.o;rw[MY,<-Kh]at this;rw[List.take_add_one,N.o,List.map_append];simp only[Option.toList_some,List.map_cons,List.map_nil];rw[RO];exact this
    .exact IT (j.o.trans m.o) n.o
   case measure=>simp[intOf];omega
  .have S:ts.take k=ts:=Qn Zj;rw[S]at h;have o:=hZ h;have j:=hZ f;clear h f
   go_wp2_with(first
    |(go_at_call 147;refine(Tf w.heap.size w.heap.size _ _ (JD o.o wo) (by have:=j.o.size;simpa using this)).mono ?_;rintro e Y ⟨rfl,g⟩;have n:=hZ g;clear g))
   refine bodyPost_ret (results_tmp2 rfl _ _ _) rfl ⟨by simp[A6],IT (b:=_) (by exact cg j.o) n.o⟩
def IU(w:Wl)(e:Ending)(w':Wl):Prop:=(∃t x,e= nR (nT #[nS nN 0 0,nF t x]))/\Chg w w' []
theorem TV(n m:Int)(w:Wl):Cl prog 255 #[nA #[nI nX n,nI nX m]] w fun e w'=>e= nR (nI nX m)/\Chg w w' []:=by
 go_enter func255,ntmps255;go_wp2;go_ret;exact⟨rfl,by exact cg cR⟩
theorem TH(n m:Int)(w:Wl):(callMethod (nF 84 (nA #[nI nX n,nI nX m])) (String.ofList [Char.ofNat 80,Char.ofNat 108,Char.ofNat 97,Char.ofNat 99,Char.ofNat 101]) #[]).run prog w= .ok (.enter 255 #[nA #[nI nX n,nI nX m]]) w:=Yb
theorem Wu(h:Yf false v):∃(n m:Int),v= nF 84 (nA #[nI nX n,nI nX m]):=by
 rcases h with⟨h,_⟩|⟨_,h⟩
 .cases h
 .exact h
theorem NL(s:BY)(w:Wl)(q:s.size<=2147483648)(p:Utf.Al s=false):Cl prog 49 #[nG s] w (IU w):=by
 obtain⟨cap,x,t,r,f,h,d⟩:=GJ (P:=prog) w 9 180 5 s underlying9 underlying180 underlying5;have u:∀(n m:Int) (w:Wl),(Instr.typeAssert (nF 84 (nA #[nI nX n,nI nX m])) 35 177 true).run prog w= .ok (nT #[nF 84 (nA #[nI nX n,nI nX m]),.bool true]) w:=fun _ _ _=>Yb;have j:=hZ d;have o:=hZ h;have k:=hZ f.toChg;clear d h f;go_enter func49,ntmps49
 go_wp2_with(first
  |(go_at_call 82;refine(II s q w.heap.size cap _ (by rw[o.o];omega) j.o).mono ?_;rintro e w2 ⟨v,rfl,a,g⟩;rw[p]at a;obtain⟨n,m,rfl⟩:=Wu a;have l:=hZ g.toChg;clear a g)
  |(refine Am rfl _ _ _ rfl _ rfl 255 _ (TH n m _) _ (TV n m _) ?_;rintro e y ⟨rfl,c⟩;refine⟨_,rfl, ?_⟩;have i:=hZ c;clear c))
 refine bodyPost_ret (results_tmp2 rfl _ _ _) rfl ⟨⟨_,_,rfl⟩,Chg.trans (b:=_) (k.o.trans l.o) ?_⟩;exact cg i.o
theorem Ub(h:Yf true v):v= .nilIface:=by
 rcases h with⟨_,h⟩|⟨h,_⟩
 .exact h
 .cases h
theorem MK(s:BY)(w:Wl)(v:s.size<=2147483648)(u:Utf.Al s=true)(a:BH s.data.toList=false):Cl prog 49 #[nG s] w (IU w):=by
 obtain⟨cap,E,z,y,i,k,f⟩:=GJ (P:=prog) w 9 180 5 s underlying9 underlying180 underlying5;have C:∀(w:Wl),(Instr.typeAssert .nilIface 35 177 true).run prog w= .ok (nT #[.nilIface,.bool false]) w:=fun _=>Yb
 have A:s.toList.isEmpty=false:=by
  rw[Lib.toList_data];cases h:s.data.toList with
  |nil=>rw[h]at a;simp[BH]at a
  |cons c r=>rfl
 have B:0<s.size:=by
  cases h:s.data.toList with
  |nil=>rw[h]at a;simp[BH]at a
  |cons c r=>have:s.data.toList.length=s.size:=Array.length_toList;rw[h]at this;simp at this;omega
 have x:∀(h:0<s.size),((s[0].toNat:Int) !=47)=true:=by
  intro h;cases e:s.data.toList with
  |nil=>rw[e]at a;simp[BH]at a
  |cons c r=>
   have q:s.data.toList[0]? =nM c:=by rw[e];rfl
   have t:s[0]=c:=by
    have:s.data[0]? =nM c:=by simpa using q
    have:=(Array.getElem?_eq_some_iff.1 this).2;exact this
   rw[t];rw[e]at a;simp[BH]at a;simp only[bne_iff_ne];intro g;have p:c.toNat=47:=Zj;exact a (UInt8.toNat_inj.1 (by simpa using p))
 have l:=hZ f;have o:=hZ k;have m:=hZ i.toChg;clear f k i;go_enter func49,ntmps49
 go_wp2_with(first
  |(go_at_call 82;refine(II s v w.heap.size cap _ (by rw[o.o];omega) l.o).mono ?_;rintro e w2 ⟨D,rfl,d,j⟩;rw[u]at d;obtain rfl:=Ub d;have n:=hZ j.toChg;clear d j))
 refine bodyPost_ret (results_tmp2 rfl _ _ _) rfl ⟨⟨_,_,rfl⟩,Chg.trans (b:=_) m.o ?_⟩;exact cg n.o
end
section
open Go Go.Shelf Go.RowKit Go.Lib Tree Ptr
def GI(l:List UInt8)(k:Nat):Bool:=l[k]? ==nM 126&& !(l[k+1]? ==nM 48||l[k+1]? ==nM 49)
theorem Om(l:List UInt8):A4 l=true↔∀k,GI l k=false:=by
 induction l with
 |nil=>simp[A4,GI]
 |cons c r i=>
  rw[A4,Bool.and_eq_true,i];constructor
  .rintro⟨a,g⟩ k;cases k with
   |zero=>
    cases r with
    |nil=>simp[GI]at a|-;exact a
    |cons d r=>simp[GI]at a|-;intro e f;rcases a with(a|a)|a;exact absurd e a;exact absurd a f;exact a
   |succ k=>have:=g k;simpa[GI]using this
  .intro h;refine⟨?_,fun k=>by have:=h (k+1);simpa[GI]using this⟩;have b:=h 0;cases r with
   |nil=>simp[GI]at b|-;exact b
   |cons d r=>
    simp[GI]at b|-;by_cases e:c=126
    .by_cases f:d=48
     .exact .inl (.inr f)
     .exact .inr (b e f)
    .exact .inl (.inl e)
theorem Yk{s:BY}{k:Nat}(f:k<s.size):GI s.data.toList k=(decide (Utf.Aj s k=126)&& !(decide (k+1<s.size)&&(decide (Utf.Aj s (k+1)=48)||decide (Utf.Aj s (k+1)=49)))):=by
 have i:s.data.size=s.size:=rfl
 have e:∀(j:Nat) (a:j<s.size) (c:UInt8),(s.data.toList[j]? ==nM c)=decide (Utf.Aj s j=c.toNat):=by
  intro j a c
  have d:s.data.toList[j]? =nM (s[j]'a):=by
   rw[Array.getElem?_toList,Array.getElem?_eq_getElem a];rfl
  rw[d,Utf.BV a];by_cases h:s[j]'a=c
  .subst h;simp
  .have:¬(s[j]'a).toNat=c.toNat:=fun g=>h (UInt8.toNat_inj.1 g);simp[h,this]
 unfold GI;rw[e k f];by_cases b:k+1<s.size
 .rw[e (k+1) b,e (k+1) b];simp[b]
 .have:s.data.toList[k+1]? =nN:=by rw[List.getElem?_eq_none_iff,Array.length_toList];omega
  rw[this];simp[b]
end
section
open _root_.Go.Proofs.Tryz
open Go Go.Shelf Go.RowKit Go.Lib Tree Ptr
variable{s:BY}{e:Ending}{l:List UInt8}{p:Prop}{w w':Wl}
theorem MP(a b:UInt8)(new:List UInt8):∀(l:List UInt8),(Ey a b new l).length<=l.length*(new.length+1)
 |[]=>by simp[Ey]
 |[c]=>by simp[Ey]
 |c::d::r=>by
  have e:=MP a b new r;have f:=MP a b new (d::r);simp only[Ey];split
  .simp only[Qk,Qj,Nat.add_mul,Nat.one_mul]at*;omega
  .simp only[Qj,Nat.add_mul,Nat.one_mul]at*;omega
theorem Oh(s:BY)(a b:UInt8)(new:List UInt8)(w:Wl)(d:Br w)(k:s.size<=134217728)(g:new.length<=16)(i:[a,b]≠new):
  Cl prog 85 #[nG s,nG ⟨#[a,b]⟩,nG ⟨new.toArray⟩] w fun e w'=>e= nR (nG ⟨(Ey a b new s.data.toList).toArray⟩)/\Chg w w' []:=by
 have f:=countB_le ⟨#[a,b]⟩ (by show 1<=2;omega) s.size s (Q8 _);have j:(⟨new.toArray⟩:BY).size=new.length:=wH
 have:=Rj s ⟨#[a,b]⟩ ⟨new.toArray⟩ w d Zj (by show 1<=2;omega) (by rw[j];have:=Nat.mul_le_mul f g;omega);refine this.mono fun e w' h=>⟨?_,h.2⟩;rw[h.1];have c:=R8 a b new s.data.toList i;simp only[List.toList_toArray]at c|-;rw[<-c]
def FA(ts:List BY)(w:Wl)(e:Ending)(w':Wl):Prop:=∃a,e= nR (nT #[a,.nilIface])/\AK w' a 9 (Ad ts)/\BP w a.ownBlock.toList/\Chg w w' []
def AU(s:BY)(w:Wl)(e:Ending)(w':Wl):Prop:=match AD s with
 |some ts=>FA ts w e w'
 |none=>IU w e w'
theorem JY{k:Nat}(h:GI s.data.toList k=true)(d:IU w e w'):AU s w e w':=by
 have c:¬A4 s.data.toList=true:=fun b=>by have:=(Om _).1 b k;rw[this]at h;cases h
 unfold AU AD;rw[Qs (fun a=>c a.2.2.1)];exact d
def M7(l:List UInt8):List BY:=(CE l).map fun t=>⟨t.toArray⟩
theorem XZ:M7 []=[]:=by simp[M7,CE]
theorem VU(b:BH l=true)(a:l≠[]):M7 l=⟨(Ct ((l.drop 1).takeWhile Bc)).toArray⟩::M7 ((l.drop 1).dropWhile Bc):=by
 cases l with
 |nil=>exact absurd rfl a
 |cons c r=>unfold M7;rw[CE];rfl
theorem Lc(a:A4 l=true)(e:BH l=true):A4 ((l.drop 1).takeWhile Bc)=true/\A4 ((l.drop 1).dropWhile Bc)=true:=by
 cases l with
 |nil=>exact⟨rfl,rfl⟩
 |cons c r=>
  have b:r.takeWhile Bc++r.dropWhile Bc=r:=List.takeWhile_append_dropWhile;have d:A4 r=true:=by simp only[A4,Bool.and_eq_true]at a;exact a.2
  exact GT _ _ (C7 r) (by rw[List.drop_one,List.tail_cons,b];exact d)
theorem Zz(h:∀j,j<s.size->GI s.data.toList j=false):A4 s.data.toList=true:=by
 rw[Om];intro k;by_cases a:k<s.size
 .exact h k a
 .have:s.data.toList[k]? =nN:=by rw[List.getElem?_eq_none_iff,Array.length_toList];exact Nat.le_of_not_lt a
  unfold GI;rw[this];simp
structure LO(s s':BY)(acc:List BY):Prop where
 size:s'.size<=s.size
 head:BH s'.data.toList=true
 esc:A4 s'.data.toList=true
 toks:acc++M7 s'.data.toList=M7 s.data.toList
theorem LO.next{a b f rest:BY}{g:List BY}(h:LO s a g)(r:0<a.size)(i:b.data.toList=(a.data.toList.drop 1).takeWhile Bc)(k:f.data.toList=Ct b.data.toList)(o:rest=a.extract (1+b.size) a.size):
  LO s rest (g++[f])/\rest.size<a.size:=by
 have d:a.data.toList.length=a.size:=Array.length_toList;have n:a.data.toList≠[]:=by intro e;rw[e]at d;simp at d;omega
 have q:b.data.toList.length=b.size:=Array.length_toList
 have c:rest.data.toList=(a.data.toList.drop 1).dropWhile Bc:=by
  rw[o,Lib.extract_to_end,<-YW,<-i,q,List.drop_drop]
 have p:rest.data.toList.length=rest.size:=Array.length_toList
 have m:rest.size<a.size:=by
  have j:=(List.dropWhile_suffix (l:=a.data.toList.drop 1) Bc).sublist.length_le;rw[<-c,p,Qm,d]at j;omega
 refine⟨⟨by have:=h.size;omega,by rw[c];exact C7 _,by rw[c];exact(Lc h.esc h.head).2, ?_⟩,m⟩;rw[<-h.toks,VU h.head n,c,List.append_assoc];have:f=⟨(Ct ((a.data.toList.drop 1).takeWhile Bc)).toArray⟩:=DK (by rw[k,i]);rw[this];rfl
theorem LO.start(a:BH s.data.toList=true)(b:A4 s.data.toList=true):LO s s []:=⟨Q8 _,a,b,rfl⟩
theorem Sq(a:BH l=true):(M7 l).length=l.count 47:=by unfold M7;rw[List.length_map,FW l a]
theorem Ym(a c:BY)(w:Wl)(g:Br w)(j:a.size<=16777216)(i:c.data.toList=(a.data.toList.drop 1).takeWhile Bc):
  Cl prog 84 #[nG (a.extract 1 a.size),nG ⟨#[47]⟩] w fun e w'=>(∃x b,e= nR (nT #[nG c,nG x,.bool b]))/\Chg w w' []:=by
 obtain⟨m,h⟩:=g.max;refine(Yw (a.extract 1 a.size) ⟨#[47]⟩ m w (by rw[ByteArray.size_extract];omega) h).mono ?_;rintro e w' ⟨rfl,n,rfl⟩;have d:(⟨(Lib.cut (a.extract 1 a.size).data.toList [47]).1.toArray⟩:BY)=c:=DK (by rw[Zp,Lib.extract_to_end,i]);have f:(⟨(Lib.cut (a.extract 1 a.size).data.toList (⟨#[47]⟩:BY).data.toList).1.toArray⟩:BY)=c:=d;rw[f];exact⟨⟨_,_,rfl⟩,(Chg.refl _ _).drewN n⟩
theorem Vm(d:Utf.Al s=true)(b:BH s.data.toList=true)(c:A4 s.data.toList=true)(a:s.data.toList.count 47<=65536):AD s=nM (M7 s.data.toList):=by
 unfold AD;rw[Qr ⟨d,b,c,a⟩];rfl
theorem TF(c:65536<s.data.toList.count 47)(b:IU w e w'):AU s w e w':=by
 unfold AU AD;rw[Qs (fun a=>by have:=a.2.2.2;omega)];exact b
theorem TE{ts:List BY}(h:AD s=nM ts)(a:FA ts w e w'):AU s w e w':=by
 unfold AU;rw[h];exact a
theorem wn(h:p:=by
 have m:=hZ i;clear i;go_wp2_with fail;go_roundw
 case rel=>exact⟨k+1,Zj,by go_num,fun j p=>by
  rcases Nat.lt_succ_iff_lt_or_eq.1 p with h|rfl
  .exact S.o j h
  .exact m.o,o.o⟩
 case measure=>simp[intOf];omega):p:=h
theorem wD(h:p:=by have m:=hZ i;clear i;go_wp2_with fail;refine bodyPost_ret (results_tmp2 rfl _ _ _) rfl ?_;exact JY m.o ⟨⟨_,_,rfl⟩,by exact cg o.o⟩):p:=h
theorem wG(h:p:=by simp;omega):p:=h
theorem MJ(s:BY)(w:Wl)(hL:Br w)(hs:s.size<=16777216)(hr:Utf.Al s=true)(t:BH s.data.toList=true):Cl prog 49 #[nG s] w (AU s w):=by
 obtain⟨cap,w1,aU,aS,ap,hz,am⟩:=GJ (P:=prog) w 9 180 5 s underlying9 underlying180 underlying5;have aY:∀(w:Wl),(Instr.typeAssert .nilIface 35 177 true).run prog w= .ok (nT #[.nilIface,.bool false]) w:=fun _=>Yb
 have aR:∀(h:0<s.size),((s[0].toNat:Int) !=47)=false:=by
  intro h;cases e:s.data.toList with
  |nil=>have:s.data.toList.length=s.size:=Array.length_toList;rw[e]at this;simp at this;omega
  |cons c r=>
   have h0:s.data.toList[0]? =nM c:=by rw[e];rfl
   have z:s[0]=c:=by
    have:s.data[0]? =nM c:=by simpa using h0
    have:=(Array.getElem?_eq_some_iff.1 this).2;exact this
   rw[z];rw[e]at t;simp[BH]at t;subst t;rfl
 have aM:(0<s.size/\s.toList.isEmpty=false)\/s.toList.isEmpty=true:=by
  by_cases aw:0<s.size
  .refine .inl ⟨aw, ?_⟩;rw[Lib.toList_data];cases h:s.data.toList with
   |nil=>have:s.data.toList.length=s.size:=Array.length_toList;rw[h]at this;simp at this;omega
   |cons c r=>rfl
  .refine .inr ?_;rw[Lib.toList_data];have:s.data.toList.length=s.size:=Array.length_toList;rw[List.eq_nil_of_length_eq_zero (by omega:s.data.toList.length=0)];rfl
 have HC:=hZ am;have HZ:=hZ hz;have aE:=hZ ap.toChg;have T:=hZ hL;clear am hz ap hL;rcases aM with⟨aw,au⟩|au
 all_goals
  go_enter func49,ntmps49
  go_wp2_with(first
  |(go_at_call 82;refine(II s Zj w.heap.size cap _ (by rw[HZ.o];omega) HC.o).mono ?_;rintro e w2 ⟨v2,rfl,he,aq⟩;rw[hr]at he;obtain rfl:=Ub he;have aF:=hZ aq.toChg;clear he aq))
  have HW:=hZ (aE.o.trans aF.o);go_loopw [34] (fun ae wr=>∃k:Nat,k<=s.size/\ae= nI nX k/\(∀j,j<k->GI s.data.toList j=false)/\Chg w wr []) (fun ae _=>s.size-(intOf ae).toNat)
  case atStart=>exact⟨0,Zj,rfl,fun j p=>Zj,HW.o⟩
  case round=>
   obtain⟨k,hk,rfl,K,L⟩:=hrel;by_cases ar:k<s.size
   .have al:=Yk ar;have A:=Utf.BV ar;have S:=hZ K;have o:=hZ L;have v:=hZ al;clear K L al;by_cases E:s[k].toNat=126
    .have c1:((s[k].toNat:Int)==126)=true:=wG
     by_cases y:k+1<s.size
     .have J:=Utf.BV y;have aL:(((k:Int)+1)==(s.size:Int))=false:=by rw[Qq];omega
      by_cases n3:s[k+1].toNat=48
      .have d3:((s[k+1].toNat:Int) !=48)=false:=wG
       have i:GI s.data.toList k=false:=by rw[v.o,A,J];simp[E,n3,y]
       exact wn
      .have d3:((s[k+1].toNat:Int) !=48)=true:=wG
       by_cases n4:s[k+1].toNat=49
       .have d4:((s[k+1].toNat:Int) !=49)=false:=wG
        have i:GI s.data.toList k=false:=by rw[v.o,A,J];simp[E,n3,n4,y]
        exact wn
       .have d4:((s[k+1].toNat:Int) !=49)=true:=wG
        have i:GI s.data.toList k=true:=by rw[v.o,A,J];simp[E,n3,n4,y]
        exact wD
     .have aL:(((k:Int)+1)==(s.size:Int))=true:=by rw[beq_iff_eq];omega
      have i:GI s.data.toList k=true:=by rw[v.o,A];simp[E,y]
      exact wD
    .have c1:((s[k].toNat:Int)==126)=false:=by rw[Qq];omega
     have i:GI s.data.toList k=false:=by rw[v.o,A];simp[E]
     exact wn
   .have aN:k=s.size:=by omega
    subst aN;have ao:=Zz K;have o:=hZ L;have HE:=hZ ao;obtain⟨X,Z⟩:=Ue (s.data.toList.count 47:Nat);have ag:=UD (∀d,Cl prog 83 #[nG s,nG ⟨#[47]⟩] d fun e w'=>e= nR (nI nX X)/\w'=d) fun d=>by rw[Z];exact U6 s 47 d
    have af:=hZ Z;clear L K ao Z;by_cases an:65536<X
    .have aC:=hZ an
     go_wp2_with(first
      |(go_at_call 83;refine(ag.o _).mono ?_;rintro e w3 ⟨rfl,rfl⟩))
     refine bodyPost_ret (results_tmp2 rfl _ _ _) rfl ?_;exact TF (by rw[<-af.o];exact aC.o) ⟨⟨_,_,rfl⟩,by exact cg o.o⟩
    .have Y:s.data.toList.count 47<=65536:=by rw[<-af.o];omega
     have HP:=hZ (Vm hr t HE.o Y);have HT:=hZ (Sq t);have HS:=hZ (LO.start t HE.o);have aA:=hZ Y;have aT:(X:Int)<=65536:=Zj;clear an Y
     go_wp2_with(first
      |(go_at_call 83;refine(ag.o _).mono ?_;rintro e w3 ⟨rfl,rfl⟩))
     go_loopw [0,7] (fun v0 v7 wr=>∃(a:BY) (g:List BY),v0= nG a/\LO s a g/\AK wr v7 9 (Ad g)/\BP w v7.ownBlock.toList/\Chg w wr []) (fun v0 _ _=>match v0 with| nG a=>a.size|_=>0)
     case atStart=>exact⟨s,[],rfl,HS.o,AK.nil _ _,BP.nil _,by exact cg o.o⟩
     case round=>
      obtain⟨a,g,rfl,n,B,N,M⟩:=hrel;obtain⟨V,W,rfl,au⟩:=B.form;have I:(Ad g).length=g.length:=Ao g;rw[I]at B N|-
      have aQ:g.length+(M7 a.data.toList).length<=65536:=by
       have z:=congrArg List.length n.toks;rw[Qk,HT.o]at z;have:=aA.o;omega
      have aX:=n.size;have aP:=hZ n;have ah:=hZ B;have U:=hZ N;have q:=hZ M;have R:=hZ I;by_cases hp:0<a.size
      .have aO:a.toList.isEmpty=false:=by
        rw[Lib.toList_data];cases h:a.data.toList with
        |nil=>have:a.data.toList.length=a.size:=Array.length_toList;rw[h]at this;simp at this;omega
        |cons c r=>rfl
       obtain⟨f,C⟩:∃f:BY,f.data.toList=(a.data.toList.drop 1).takeWhile Bc:=⟨⟨((a.data.toList.drop 1).takeWhile Bc).toArray⟩,rfl⟩;obtain⟨F,O⟩:=Ue (⟨(Ey 126 49 [47] f.data.toList).toArray⟩:BY);obtain⟨u,ad⟩:=Ue (⟨(Ey 126 48 [126] F.data.toList).toArray⟩:BY);have av:=(Lc n.esc n.head).1;have ay:u.data.toList=Ct f.data.toList:=by rw[ad,O,<-KJ _ (by rw[C];exact av)]
       have a0:f.size+1<=a.size:=by
        have z:=(List.takeWhile_prefix (l:=a.data.toList.drop 1) Bc).sublist.length_le;have h2:f.data.toList.length=f.size:=Array.length_toList;have H:a.data.toList.length=a.size:=Array.length_toList;rw[<-C,h2,Qm,H]at z;omega
       have aa:=n.next hp C ay rfl;have aI:=hZ aa.1;have aV:=aa.2;have aD:=UD (∀d,Chg w d []->Cl prog 84 #[nG (a.extract 1 a.size),nG ⟨#[47]⟩] d fun e w'=>(∃x b,e= nR (nT #[nG f,nG x,.bool b]))/\Chg d w' []) fun d D=>Ym a f d (T.o.kept D) Zj C
       have aJ:=UD (∀d,Chg w d []->Cl prog 85 #[nG f,nG ⟨#[126,49]⟩,nG ⟨#[47]⟩] d fun e w'=>e= nR (nG F)/\Chg d w' []) fun d D=>
        (Oh f 126 49 [47] d (T.o.kept D) Zj ZM ZM).mono fun e w' h=>⟨by rw[h.1,O],h.2⟩
       have ax:F.size<=134217728:=by
        have:=MP 126 49 [47] f.data.toList;have h2:f.data.toList.length=f.size:=Array.length_toList;rw[O];simp only[ByteArray.size,List.size_toArray];simp only[Qj,List.length_nil]at this;omega
       have aK:=UD (∀d,Chg w d []->Cl prog 85 #[nG F,nG ⟨#[126,48]⟩,nG ⟨#[126]⟩] d fun e w'=>e= nR (nG u)/\Chg d w' []) fun d D=>
        (Oh F 126 48 [126] d (T.o.kept D) ax ZM ZM).mono fun e w' h=>⟨by rw[h.1,ad],h.2⟩
       have a1:=M.size;have aZ:((1:Int)+(f.size:Int)).toNat=1+f.size:=Zj;have J:(1:Int)+(f.size:Int)<=(a.size:Int):=Zj;have aW:1<=a.size:=hp;clear aa C O ad av ay ax n B N M I
       go_wp2_with(first
        |(go_at_call 84;refine(aD.o _ (by exact cg q.o)).mono ?_;rintro e w3 ⟨⟨x,b,rfl⟩,H⟩;have H3:=UD (Chg wr w3 []) H;clear H)
        |(go_at_call_of 85 (Vl.string f);refine(aJ.o _ (by exact cg (q.o.trans H3.o))).mono ?_;rintro e w4 ⟨rfl,h4⟩;have H4:=UD (Chg wr w4 []) (ct H3.o h4);clear h4)
        |(go_at_call 85;refine(aK.o _ (by exact cg (q.o.trans H4.o))).mono ?_;rintro e G ⟨rfl,h5⟩;have Q:=UD (Chg wr G []) (ct H4.o h5);clear h5)
        |(refine AM rfl _ _ _ rfl 9 (nG ⟨#[]⟩) 16 underlying27 Cf rfl (nS V g.length W) (Ad g) ZN (by exact(ah.o.kept Q.o).kept (bs:=[]) wo Zh) G.heap.size (nG u) ZN (by exact Bx rfl _ _) rfl (by rw[R.o];omega) (by rw[R.o];omega) ?_;rw[R.o];intro g7 cap w7 ak ai aj;have aH:=hZ ak;have aB:=UD (Chg G w7 (Vl.slice V g.length W).ownBlock.toList) ((((Chg.refl G []).alloc _).none _).trans ai);have aG:=UD ((Vl.slice V g.length W).ownBlock=nM g7\/G.heap.size<=g7) (aj.imp id (fun h=>by rw[World.size_alloc]at h;omega));clear ak ai aj))
       go_roundw
       case rel=>
        refine⟨_,g++[u],rfl,aI.o, ?_, ?_, ?_⟩
        .have:=aH.o;rw[show Ad (g++[u])=Ad g++[nG u]from by simp[Ad]];exact this
        .refine⟨by simp[Vl.ownBlock],fun b hb=> ?_⟩;simp[Vl.ownBlock]at hb;subst hb;rcases aG.o with h|h
         .exact U.o.ge _ (by rw[h];simp)
         .have:=q.o.size;have:=Q.o.size;omega
        .exact(q.o.trans Q.o).step aB.o fun j p hl=>by have:=U.o.ge j p;omega
       case measure=>simp;omega
      .have ab:a.data.toList=[]:=List.eq_nil_of_length_eq_zero (by rw[Array.length_toList];exact(by omega:a.size=0));have aO:a.toList.isEmpty=true:=by rw[Lib.toList_data,ab];rfl
       have az:=n.toks;rw[ab,XZ,List.append_nil]at az;subst az;clear n B N M I ab;go_wp2_with fail;refine bodyPost_ret (results_tmp2 rfl _ _ _) rfl ?_;exact TE HP.o ⟨_,rfl,ah.o,U.o,by exact cg q.o⟩
theorem Lg(h:¬(Utf.Al s=true/\BH s.data.toList=true))(b:IU w e w'):AU s w e w':=by
 unfold AU AD;rw[Qs (fun a=>h ⟨a.1,a.2.1⟩)];exact b
theorem D8(s:BY)(w:Wl)(c:Br w)(d:s.size<=16777216):Cl prog 49 #[nG s] w (AU s w):=by
 by_cases a:Utf.Al s=true
 .by_cases b:BH s.data.toList=true
  .exact MJ s w c d a b
  .exact(MK s w Zj a (by simpa using b)).mono fun e w' h=>Lg (fun g=>b g.2) h
 .exact(NL s w Zj (by simpa using a)).mono fun e w' h=>Lg (fun g=>a g.1) h
end
section
open _root_.Go.Proofs.Tryz
open Go Go.RowKit Tree Ptr
variable{a p:BY}{ks:List BY}{l:List Tr}{vs:List Vl}{F:Nat->Prop}{w:Wl}
def eT(k:Int)(p:BY):Vl:= nF 145 (nA #[nI nX k,nG p])
theorem eZ(k:Int)(p:BY)(w:Wl):Cl prog 34 #[nI nX k,nG p] w fun e w'=>e= nR (eT k p)/\Chg w w' []:=by
 go_enter func34,ntmps34;go_wp2;go_ret;exact⟨rfl,Chg.refl _ _⟩
structure eR(ks:List BY)(l:List Tr)(vs:List Vl)(F:Nat->Prop)(la:Option Addr)(w:Wl):Prop where
 len:ks.length=l.length
 row:LP w F la (Kp ks vs)
 kids:Dc w F l vs
 lt:∀b,F b->b<w.heap.size
 many:ks.length<=65536
theorem eR.kept{d:Option Addr}{w':Wl}(h:eR ks l vs F d w)(a:Chg w w' []):eR ks l vs F d w':=by
 have c:=a.keepsF h.lt;exact⟨h.len,h.row.kept c (fun _ x=>x),Dc.kept c (fun _ x=>x) _ _ h.kids,fun b e=>Q6 (h.lt b e) a.size,h.many⟩
theorem eR.boxed{e:Option Addr}(h:eR ks l vs F e w):∀v∈vs,∃f g,v= nF f g:=fun v d=>by
 obtain⟨i,hi⟩:=List.mem_iff_getElem?.1 d;have k:=h.kids.length;have j:=(Qc.1 hi).1;obtain⟨t,c⟩:∃t,l[i]? =nM t:=⟨_,Q9 Zj⟩;obtain⟨v',a,b⟩:=h.kids.get i t c;rw[hi]at a;injection a with a
 subst a;exact b.iface
theorem eR.at_{m:Option Addr}(h:eR ks l vs F m w)(i:C4 ks a=true):
  ∃b o c d,m=nM ⟨b,o,nN⟩/\A5 ks a<ks.length/\w.cell? ⟨b,o+A5 ks a*2+1,nN⟩=nM (nF c d)/\Hm w F (l.getD (A5 ks a) .null) (nF c d):=by
 have j:=Dk (Cp.1 i);have s:=Gk (Cp.1 i);obtain⟨t,k⟩:∃t,l[A5 ks a]? =nM t:=⟨_,Q9 (by rw[<-h.len];exact j)⟩;obtain⟨v,q,g⟩:=h.kids.get _ _ k;obtain⟨c,d,rfl⟩:=g.iface;obtain⟨f,n⟩:=eM s q;rcases h.row with p|⟨b,o,e,_,r⟩
 .rw[p]at f;simp at f
 .exact⟨b,o,c,d,e,j,by rw[Nat.add_assoc];exact r _ _ n,by rw[List.getD_eq_getElem?_getD,k];exact g⟩
def eW(r:ZU)(w:Wl)(e:Ending)(w':Wl):Prop:=Chg w w' []/\match r with
 | .no k q=>e= nR (nT #[nG ⟨#[]⟩,eT k q])
 | .yes s=>e= nR (nT #[nG s,.nilIface])
def eS:Tr->Option BY
 | .text s=>nM s
 |_=>nN
theorem wE{p:Prop}(h:p:=by injection h with a b;subst a;subst b;kernel_rfl):p:=h
theorem fg{t:Tr}{d:Ti}{f:Vl}(h:Hm w F t (nF d f))(e:Wl):
  (Instr.typeAssert (nF d f) 95 127 true).run prog e= .ok (nT #[nG ((eS t).getD ⟨#[]⟩),.bool (eS t).isSome]) e:=by
 cases t<;>simp only[Hm,AG]at h
 .exact wE
 .exact wE
 .exact wE
 .exact wE
 .obtain⟨i,vs,a,_⟩:=h;injection a with a b;subst a;kernel_rfl
 .obtain⟨g,c,vs,a,_⟩:=h;injection a with a b;subst a;kernel_rfl
theorem fe{b s:BY}(h:C4 ks b=true)(a:eS (l.getD (A5 ks b) .null)=nM s):E4 ks l p b= .yes s:=by
 unfold E4;rw[Qr h];unfold eS at a;split at a
 .rename_i c;rw[c];injection a with a;rw[a]
 .cases a
theorem fd(h:C4 ks a=true)(b:eS (l.getD (A5 ks a) .null)=nN):E4 ks l p a= .no 5 (X1 p a):=by
 unfold E4;rw[Qr h];unfold eS at b;split
 .rename_i s c;rw[c]at b;simp at b
 .rfl
theorem fi(ks:List BY)(l:List Tr)(vs:List Vl)(F:Nat->Prop)(y:Option Addr)(c:Nat)(p a:BY)(w:Wl)(h:eR ks l vs F y w)(P:p.size<=1000)(M:a.size<=1000):
  Cl prog 56 #[nS y ks.length c,nG p,nG a] w (eW (E4 ks l p a) w):=by
 have O:∀(C:Fn) (first cap:Array Vl) (w:Wl),(Instr.makeFunc C first cap).run prog w= .ok (.func C first cap) w:=fun _ _ _ _=>rfl;have N:=h.many
 have j:=UD (∀X q,Chg w q []->Ac q X [nG a] 9->Cl prog 59 #[nS y ks.length c,.func (.func 87) #[] #[nP (nM ⟨X,0,nN⟩)]] q fun e w'=>e= nR (nI nX (eN ks a))/\Chg q w' []) fun X q J H=>
  eV 87 #[nP (nM ⟨X,0,nN⟩)] a ks vs F y c q (by rw[h.len,h.kids.length]) Zj (h.kept J).row h.boxed (fun _ _=>Yb) fun L k D E K=>eP k a D E X L (H.kept K)
 have v:=UD (Ac (w.alloc (nC #[nG a] 9)) w.heap.size [nG a] 9) (Ac.new w [nG a] _);by_cases f:C4 ks a=true
 .obtain⟨b,o,D,E,rfl,I,c1,A⟩:=h.at_ f;have m:eN ks a=(A5 ks a:Int):=by unfold eN;rw[Qr f]
  rw[m]at j;obtain⟨i,hi⟩:=Ue (A5 ks a);rw[<-hi]at j c1 I;have x:=fg A;cases n:eS (l.getD (A5 ks a) .null)with
  |some s=>
   rw[n]at x;have r:=hZ (fe (p:=p) f n);simp only[Option.getD_some,Option.isSome_some]at x;clear h f m hi A n;go_enter func56,ntmps56;go_wp2_with((go_at_call 59;refine(j.o _ _ wo v.o).mono ?_;rintro e u ⟨rfl,d⟩;have g:=UD (Chg w u []) (((Chg.refl w []).alloc _).trans d);have G:=g.o.keeps c1;clear d));go_ret2;refine⟨g.o, ?_⟩;rw[r.o];rfl
  |none=>
   rw[n]at x;simp only[Option.getD_none,Option.isSome_none]at x;have r:=hZ (fd (p:=p) f n);clear h f m hi A n;go_enter func56,ntmps56
   go_wp2_with(first
    |(go_at_call 59;refine(j.o _ _ wo v.o).mono ?_;rintro e u ⟨rfl,d⟩;have g:=UD (Chg w u []) (((Chg.refl w []).alloc _).trans d);have G:=g.o.keeps c1;have c3:=(v.o.kept d).cell 0;simp only[Qa]at c3;clear d)
    |(go_at_call 34;refine(eZ _ _ _).mono ?_;rintro e B ⟨rfl,t⟩;have z:=UD (Chg w B []) (g.o.trans t);clear t))
   go_ret2;refine⟨z.o, ?_⟩;rw[r.o];rfl
 .have m:eN ks a= -1:=by unfold eN;rw[Qs f]
  rw[m]at j;have r:=UD (E4 ks l p a= .no 4 p) (by unfold E4;rw[Qs f]);clear h f m;go_enter func56,ntmps56
  go_wp2_with(first
   |(go_at_call 59;refine(j.o _ _ wo v.o).mono ?_;rintro e u ⟨rfl,d⟩;have g:=UD (Chg w u []) (((Chg.refl w []).alloc _).trans d);clear d)
   |(go_at_call 34;refine(eZ _ _ _).mono ?_;rintro e B ⟨rfl,t⟩;have z:=UD (Chg w B []) (g.o.trans t);clear t))
  go_ret2;refine⟨z.o, ?_⟩;rw[r.o];rfl
theorem fS(ks:List BY)(l:List Tr)(vs:List Vl)(F:Nat->Prop)(z:Option Addr)(c:Nat)(p b:BY)(w:Wl)(o:Br w)(h:eR ks l vs F z w)(I:p.size<=1000)(G:b.size<=1000)(u:∀s,.text s∈l->s.size<=16777216):
  Cl prog 58 #[nS z ks.length c,nG p,nG b] w (eW (RL ks l p b) w):=by
 have i:=hZ (fi ks l vs F z c p b w h I G);have M:=hZ o;cases a:E4 ks l p b with
 |no k q=>
  rw[a]at i;have m:=UD (RL ks l p b= .no k q) (by unfold RL;rw[a]);clear a o h u;go_enter func58,ntmps58;go_wp2_with((go_at_call 56;refine i.o.mono ?_;rintro e C ⟨d,rfl⟩;have f:=hZ d;clear d;unfold eT));go_ret2;refine⟨f.o, ?_⟩;rw[m.o];rfl
 |yes s=>
  rw[a]at i
  have J:s.size<=16777216:=u s (by
   unfold E4 at a;split at a
   .rename_i E;split at a
    .rename_i N y;injection a with a
     subst a;have H:=Dk (Cp.1 E);rw[List.getD_eq_getElem?_getD,Q9 (by rw[<-h.len];exact H)]at y;simp only[Option.getD_some]at y;rw[<-y];exact List.getElem_mem _
    .cases a
   .cases a)
  have j:=UD (∀r,Chg w r []->Cl prog 49 #[nG s] r (AU s r)) fun r K=>D8 s r (o.kept K) J;unfold AU at j;cases g:AD s with
  |some ts=>
   rw[g]at j;have m:=UD (RL ks l p b= .yes s) (by unfold RL;rw[a];simp only[g,Option.isSome_some,if_true]);clear a o h u g;go_enter func58,ntmps58
   go_wp2_with(first
    |(go_at_call 56;refine i.o.mono ?_;rintro e C ⟨d,rfl⟩;have f:=hZ d;clear d)
    |(go_at_call 49;refine(j.o _ f.o).mono ?_;rintro e A ⟨O,rfl,_,_,n⟩;have v:=UD (Chg w A []) (f.o.trans n);clear n))
   go_ret2;refine⟨v.o, ?_⟩;rw[m.o];rfl
  |none=>
   rw[g]at j;have m:=UD (RL ks l p b= .no 171 (X1 p b)) (by unfold RL;rw[a];simp only[g,Option.isSome_none,Bool.false_eq_true,if_false]);clear a o h u g;go_enter func58,ntmps58
   go_wp2_with(first
    |(go_at_call 56;refine i.o.mono ?_;rintro e C ⟨d,rfl⟩;have f:=hZ d;clear d)
    |(go_at_call 49;refine(j.o _ f.o).mono ?_;rintro e A ⟨⟨t,x,rfl⟩,n⟩;have v:=UD (Chg w A []) (f.o.trans n);clear n)
    |(go_at_call 34;refine(eZ _ _ _).mono ?_;rintro e L ⟨rfl,B⟩;have D:=UD (Chg w L []) (v.o.trans B);clear B))
   go_ret2;refine⟨D.o, ?_⟩;rw[m.o];rfl
end
section
open _root_.Go.Proofs.Tryz
open Go Go.Shelf Go.RowKit Go.Lib Tree Ptr
def Et(o:Bq)(w:Wl)(e:Ending)(w':Wl):Prop:=
 ∃sv ys G,e= nR (nA (BJ o sv).toArray)/\Ba w' sv 55 6 o.steps.length ys/\SE G sv/\Cr w' G o.steps ys/\(∀b,G b->w.heap.size<=b/\b<w'.heap.size)/\Chg w w' []
theorem Ac.cells4{w:Wl}{b:Nat}{a c d e:Vl}{T:Ti}(h:Ac w b [a,c,d,e] T):b<w.heap.size/\(∀j,w.frozen? ⟨b,j,nN⟩=false)/\w.cell? ⟨b,0,nN⟩=nM a/\
  w.cell? ⟨b,1,nN⟩=nM c/\w.cell? ⟨b,2,nN⟩=nM d/\w.cell? ⟨b,3,nN⟩=nM e:=
 ⟨h.lt,fun j=>h.frozen j,h.cell 0,h.cell 1,h.cell 2,h.cell 3⟩
theorem A0:(prog.info? 44).map (·.size)=nM 4:=Yb
def AC(k:Nat)(ts:List BY)(l:List Aw):Bq:=(CW.mk k (A6 ts) Dz l).toI
theorem ME(k:Nat)(F:Nat->Prop)(x:Vl)(ts:List BY)(w:Wl)(t:Br w)(p:Ax w F x (Ad ts))(j:∀b,F b->b<w.heap.size)(m:DR ts)(v:∀s∈ts,s.size<=16777216):
  Cl prog 130 #[nI nX k,x,.nilIface] w (Et (AC k ts []) w):=by
 obtain⟨a,c,rfl,_⟩:=p.cell
 have r:=UD (∀d,Chg w d []->Cl prog 167 #[nS a (Ad ts).length c] d fun e w'=>e= nR (nT #[nG (A6 ts),.nilIface])/\Chg d w' []) fun d q=>
  Ot F _ ts d (t.kept q) (p.kept (q.keepsF j) (fun _ h=>h)) (fun b l=>Q6 (j b l) q.size) m.right v m.many
 obtain⟨n,u⟩:=Ue ((Ad ts).length);rw[<-u]at r|-;clear t p j m v u;go_enter func130,ntmps130
 go_wp2_with(first
  |(go_at_call 167;refine(r.o _ wo).mono ?_;rintro e g ⟨rfl,f⟩;have y:=UD (Chg w g []) (ct cR f);have C:w.heap.size<g.heap.size:=(by have:=f.size;simp at this;omega);have z:=UD (Ac g w.heap.size [nI nX 0,nG ⟨#[]⟩,nG ⟨#[]⟩,nS nN 0 0] 44) ((Ac.new w _ _).kept f);clear f)
  |(refine uN (Ac.new g _ _) ?_)
  |(refine uO (ds:=(BJ (AC k ts []) (nS nN 0 0))) (z.o.alloc _) (Dx _ _ _ _) ?_;intro D A B))
 refine bodyPost_ret (uP ?_) rfl ⟨nS nN 0 0,[],fun _=>False,rfl, ?_, ?_, ?_,fun b l=>l.elim, ?_⟩
 .exact A.o
 .exact Ba.nil _ _ _
 .intro b o n c e;cases e
 .exact rfl
 .exact(y.o.alloc _).fresh B.o (fun i hi=>by simp at hi;omega)
theorem Xk(o:Bq)(a:Option Addr)(n c:Nat):∀u∈BJ o (nS a n c),u.oneCell'=true:=Dx o a n c
theorem DE(k:Nat)(F:Nat->Prop)(sl:Vl)(ts:List BY)(t:Tr)(v:Vl)(bs:List Nat)(w:Wl)(W:Br w)(M:Ax w F sl (Ad ts))(D:∀b,F b->b<w.heap.size)(K:DR ts)(aa:∀s∈ts,s.size<=16777216)(I:Bt t)(L:AP w t v bs):
  Cl prog 130 #[nI nX k,sl,v] w (Et (AC k ts (Ai t)) w):=by
 obtain⟨a,c,rfl,_⟩:=M.cell;obtain⟨ti,xi,rfl⟩:=L.iface
 have R:=UD (∀j,Chg w j []->Cl prog 167 #[nS a (Ad ts).length c] j fun e w'=>e= nR (nT #[nG (A6 ts),.nilIface])/\Chg j w' []) fun j r=>
  Ot F _ ts j (W.kept r) (M.kept (r.keepsF D) (fun _ h=>h)) (fun b d=>Q6 (D b d) r.size) K.right aa K.many
 have HX:=UD (∀j,Chg w j []->∃f args,(callMethod (nF ti xi) EB #[nS nN 0 0]).run prog j= .ok (.enter f args) j/\Cl prog f args j fun e w'=>∃sv,e= nR sv/\LN t j sv w') fun j r=>Le I.good I.fits (L.chg r Zh);obtain⟨n,Y⟩:=Ue ((Ad ts).length);rw[<-Y]at R|-;clear W M D K aa Y I L;go_enter func130,ntmps130
 go_wp2_with(first
  |(go_at_call 167;refine(R.o _ wo).mono ?_;rintro e l ⟨rfl,m⟩;have A:=UD (Chg w l []) (ct cR m);have O:=UD (Ac l w.heap.size [nI nX 0,nG ⟨#[]⟩,nG ⟨#[]⟩,nS nN 0 0] 44) ((Ac.new w _ _).kept m);obtain⟨f,args,m1,S⟩:=HX.o (l.alloc (nC #[nI nX k,nG (A6 ts),nG ⟨#[]⟩,nS nN 0 0] 44)) (by exact cg A.o);have HM:=hZ m1;have HC:=hZ S;clear m1 S m)
  |(refine Ft rfl _ _ _ _ rfl (nF ti xi) (nS nN 0 0) ZN ZN f args HM.o _ HC.o ?_;rintro e p ⟨sv,rfl,y⟩;refine⟨_,rfl, ?_⟩;obtain⟨G,xs,m,C,T,U⟩:=y.ex;obtain⟨u,x,rfl⟩:=m.slots;have Q:=hZ m;have ag:=hZ C;have ad:=hZ T;have ae:=hZ U;have B:=hZ y.chg;have P:=UD (Ac p l.heap.size [nI nX k,nG (A6 ts),nG ⟨#[]⟩,nS nN 0 0] 44) ((Ac.new l _ _).kept y.chg);obtain⟨x1,x2,x3,x4,x5,x6⟩:=Ac.cells4 P.o;clear y m C T U)
  |(refine uN ((P.o.set 3 (nS u (Ag t).nodes x))) ?_)
  |(refine Ae rfl _ _ _ rfl w.heap.size (BJ (AC k ts (Ai t)) (nS u (Ag t).nodes x)) ZN ZN 44 [nI nX 0,nG ⟨#[]⟩,nG ⟨#[]⟩,nS nN 0 0] (by exact((O.o.alloc _).kept B.o).set_other _ _ (by have:=O.o.lt;simp;omega)) A0 rfl (Xk _ _ _ _) ?_;intro z N V X;have ah:=hZ N;have ab:=hZ V;have af:=hZ X;clear N V X))
 have H:Chg p z [l.heap.size,w.heap.size]:=Chg.trans (b:=_) ((Chg.refl p _).setCell _ _ Zh) (af.o.mono fun _ _ q=>by simp at q;simp[q]);have ak:w.heap.size<=l.heap.size:=A.o.size;have N:z.heap.size=p.heap.size:=by have:=ah.o;simpa using this
 have al:l.heap.size+1<=p.heap.size:=by have:=B.o.size;simpa using this
 have Z:∀g,(Vl.slice u (Ag t).nodes x).ownBlock=nM g->l.heap.size+1<=g:=fun g J=>by have:=(ae.o g J).1;simpa using this
 have E:∀b,G b->l.heap.size+1<=b/\b<p.heap.size:=fun b d=>by have:=ad.o b d;simpa using this
 have aj:=Q.o.kept H (fun g J q=>by have:=Z g J;simp at q;omega);have hK:i3 G p z:=H.keepsB (fun b d=>(E b d).2) (fun b q d=>by have:=(E b d).1;simp at q;omega)
 refine bodyPost_ret (uP ab.o) rfl
  ⟨nS u (Ag t).nodes x,xs,fun b=>G b\/(Vl.slice u (Ag t).nodes x).ownBlock=nM b,rfl, ?_, ?_, ?_, ?_, ?_⟩
 .show Ba z _ _ 6 (MW t).length xs
  rw[Ju];exact aj
 .intro b o n c e;injection e with e1 _ _
  exact .inr (by rw[e1];rfl)
 .exact ag.o.kept hK (fun _ h=> .inl h)
 .intro b d;rcases d with d|d
  .have:=E b d;omega
  .have m:=Z b d;have C:=Q.o.lt d;omega
 .have ai:Chg w p []:=Chg.trans (b:=_) (A.o.alloc _) B.o;exact ai.fresh H (fun i hi=>by simp at hi;omega)
end
end Go.Proofs.YtamgbmcchhmojaaGreatDoor

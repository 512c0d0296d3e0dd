/- Part 1 of the proof of patchFresh_card. -/
set_option maxRecDepth 100000
set_option maxHeartbeats 32000000
set_option linter.all false
variable{i k m n:Nat}{c p:Prop}
theorem Q5.{u}{α:Type u}{a b:α}(h:some a=some b):a=b:=Option.some.inj h
theorem Q6(h:n<m)(g:m<=k):n<k:=Nat.lt_of_lt_of_le h g
theorem Q7(h:n<=m)(g:m<=k):n<=k:=Nat.le_trans h g
theorem Q8(n:Nat):n<=n:=Nat.le_refl n
theorem Q9.{u}{α:Type u}{l:List α}(h:i<l.length):l[i]? =some l[i]:=List.getElem?_eq_getElem h
theorem Qa.{u}{α:Type u}{a:α}{l:List α}:(a::l)[0]? =some a:=rfl
theorem Qb.{u}{α:Type u}{a:α}{l:List α}:(a::l)[i+1]? =l[i]? :=rfl
theorem Qc.{u}{α:Type u}{a:α}{l:List α}:l[i]? =some a<->∃h:i<l.length,l[i]=a:=List.getElem?_eq_some_iff
theorem Qd.{u}{α:Type u}{a:α}(l:List α){k:List α}(h:a∈k):a∈l++k:=List.mem_append_right l h
theorem Qe.{u}{α:Type u}{a:α}{l:List α}(k:List α)(h:a∈l):a∈l++k:=List.mem_append_left k h
theorem Qf.{u}{α:Type u}{a:α}{s t:List α}:a∈s++t<->a∈s\/a∈t:=List.mem_append
theorem Qg.{u}{α:Type u}(y:α){a:α}{l:List α}(h:a∈l):a∈y::l:=List.mem_cons_of_mem y h
theorem Qh.{u}{α:Type u}{b:α}{l:List α}{a:α}:a∈b::l<->a=b\/a∈l:=List.mem_cons
theorem Qi.{u}{α:Type u}{l:List α}{a:α}(h:l[i]? =some a):a∈l:=List.mem_of_getElem? h
theorem Qj.{u}{α:Type u}{a:α}{l:List α}:(a::l).length=l.length+1:=rfl
theorem Qk.{u}{α:Type u}{l k:List α}:(l++k).length=l.length+k.length:=List.length_append
theorem Ql.{u}{α:Type u}{l:List α}:(l.take i).length=min i l.length:=List.length_take
theorem Qm.{u}{α:Type u}{l:List α}:(l.drop i).length=l.length-i:=List.length_drop
theorem Qn.{u}{α:Type u}{l:List α}(h:l.length<=i):l.take i=l:=List.take_of_length_le h
theorem Qo.{u}{α:Type u}{a:α}{l k:List α}:(a::l)++k=a::(l++k):=rfl
theorem Qp.{u}{α:Type u}{l:Array α}{d:α}:l.getD i d=l[i]?.getD d:=Array.getD_eq_getD_getElem?
theorem Qq.{u}{α:Type u}[BEq α][LawfulBEq α]{a b:α}:(a==b)=false<->a≠b:=beq_eq_false_iff_ne
theorem Qr.{u}{_:Decidable c}(h:c){α:Sort u}{t e:α}:(ite c t e)=t:=if_pos h
theorem Qs.{u}{_:Decidable c}(h:¬c){α:Sort u}{t e:α}:(ite c t e)=e:=if_neg h
abbrev BY:=ByteArray
theorem Zh(h:p:=by simp):p:=h
theorem Zj(h:p:=by omega):p:=h
theorem ZM(h:p:=by decide):p:=h
theorem ZN(h:p:=by rfl):p:=h
theorem Ue.{u}{α:Sort u}(a:α):∃x,x=a:=⟨a,rfl⟩
namespace Tree
inductive Tr where
 |null
 |flag (b:Bool)
 |num (bits:Nat)
 |text (s:BY)
 |list (l:List Tr)
 |obj (ks:List BY) (l:List Tr)
structure Sz where
 nodes:Nat
 bytes:Nat
 depth:Nat
def Sz.add(a b:Sz):Sz:=⟨a.nodes+b.nodes,a.bytes+b.bytes,max a.depth b.depth⟩
def Sz.over(a:Sz)(k:Nat):Sz:=⟨1+a.nodes,k+a.bytes,a.depth+1⟩
def Sz.within(a:Sz):Bool:=decide (a.nodes<=65536)&&decide (a.bytes<=2097152)&&decide (a.depth<=512)
def Ay(ks:List BY):Nat:=(ks.map (·.size)).sum
mutual
def Ag:Tr->Sz
 | .text s=>⟨1,s.size,1⟩
 | .list l=>(Bk l).over 0
 | .obj ks l=>(Bk l).over (Ay ks)
 |_=>⟨1,0,1⟩
def Bk:List Tr->Sz
 |[]=>⟨0,0,0⟩
 |t::l=>(Ag t).add (Bk l)
end
variable{l:List Tr}
theorem Sz.add_assoc(a b c:Sz):(a.add b).add c=a.add (b.add c):=by
 unfold Sz.add;simp[Nat.add_assoc,Nat.max_assoc]
theorem Sz.zero_add(a:Sz):Sz.add ⟨0,0,0⟩ a=a:=by unfold Sz.add;simp
theorem Sz.add_zero(a:Sz):Sz.add a ⟨0,0,0⟩=a:=by unfold Sz.add;simp
theorem G4(l m:List Tr):Bk (l++m)=(Bk l).add (Bk m):=by
 induction l with
 |nil=>simp[Bk,Sz.zero_add]
 |cons t l a=>simp[Bk,a,Sz.add_assoc]
theorem BM{k:Nat}{t:Tr}(h:l[k]? =some t):Bk (l.take (k+1))=(Bk (l.take k)).add (Ag t):=by
 rw[List.take_add_one,h,G4];simp[Bk,Sz.add_zero]
def EJ(l:List Tr):Prop:=∀t∈l,(Ag t).within=true
theorem Ar{s:Sz}(h:s.within=true):s.nodes<=65536/\s.bytes<=2097152/\s.depth<=512:=by
 unfold Sz.within at h;simpa[and_assoc]using h
theorem EJ.sum(h:EJ l):(Bk l).nodes<=65536*l.length/\(Bk l).bytes<=2097152*l.length/\(Bk l).depth<=512:=by
 induction l with
 |nil=>simp[Bk]
 |cons t l b=>
  have c:=Ar (h t Zh);have d:=b fun u a=>h u (by simp[a]);simp only[Bk,Sz.add,Qj];omega
theorem EJ.take(h:EJ l)(k:Nat):EJ (l.take k):=fun t a=>h t (List.mem_of_mem_take a)
theorem EJ.drop(h:EJ l)(k:Nat):EJ (l.drop k):=fun t a=>h t (List.mem_of_mem_drop a)
end Tree
namespace Utf
variable{b s:BY}{a c d f h i k m n p x y:Nat}
def AV(c:Nat):Nat:=
 if c<128 then 1 else if 194<=c/\c<=223 then 2 else if 224<=c/\c<=239 then 3 else if 240<=c/\c<=244 then 4 else 0
def He(d:Nat):Bool:=decide (128<=d/\d<=191)
def De(c d:Nat):Bool:=
 if d<128\/191<d then false
 else if c=224 then decide (160<=d)
 else if c=237 then decide (d<=159)
 else if c=240 then decide (144<=d)
 else if c=244 then decide (d<=143)
 else true
def EL(c i d:Nat):Bool:=if i=1 then De c d else He d
def Aj(s:BY)(k:Nat):Nat:=if h:k<s.size then(s[k]'h).toNat else 0
theorem BV(h:k<s.size):Aj s k=(s[k]'h).toNat:=by unfold Aj;rw[dif_pos h]
theorem Gb(s:BY)(k:Nat):Aj s k<256:=by
 unfold Aj;split
 .exact UInt8.toNat_lt _
 .omega
theorem _root_.zb{p:Prop}(h:p:=by
 repeat' split
 all_goals omega):p:=h
theorem Io(c:Nat):AV c<=4:=by
 unfold AV;exact zb
def AJ(s:BY)(a:Nat):Nat:=AV (Aj s a)
def GM(s:BY)(a k:Nat):Prop:=∀i,1<=i->i<k->a+i<s.size/\EL (Aj s a) i (Aj s (a+i))=true
def To(s:BY)(a:Nat):Prop:=AJ s a≠0/\GM s a (AJ s a)
def Ig(n:Nat):Nat:=if n=2 then 192 else if n=3 then 224 else if n=4 then 240 else 0
def CR(s:BY)(a:Nat):Nat->Int
 |0=>0
 |1=>(Aj s a:Int)-Ig (AJ s a)
 |j+1=>64*CR s a j+Aj s (a+j)-128
def GY(s:BY)(a:Nat):Int:=CR s a (AJ s a)
theorem YB(c:Nat)(h:AV c≠0):Ig (AV c)<=c:=by
 unfold AV at*;unfold Ig;repeat' split
 all_goals simp at*
 all_goals omega
theorem QM(h:GM s a k)(i:Nat)(b:1<=i)(c:i<k):128<=Aj s (a+i)/\Aj s (a+i)<=191:=by
 have:=(h i b c).2;unfold EL at this;split at this
 .unfold De at this;by_cases g:Aj s (a+i)<128\/191<Aj s (a+i)
  .rw[Qr g]at this;cases this
  .omega
 .unfold He at this;simpa using this
theorem OE(b:AJ s a≠0)(_hn:n<=4)(h:GM s a n):∀j,1<=j->j<=n->0<=CR s a j/\CR s a j<256*64^(j-1)
 |0,c,_=>Zj
 |1,_,_=>by
  have:=YB (Aj s a) b;have:=Gb s a;unfold CR;unfold AJ;simp;omega
 |j+2,_,d=>by
  have g:=OE b _hn h (j+1) Zj Zj;have f:=QM h (j+1) Zj Zj
  have e:(256:Int)*64^(j+2-1)=64*(256*64^(j+1-1)):=by
   rw[show j+2-1=(j+1-1)+1 from by omega,Int.pow_succ];omega
  rw[e];show 0<=64*CR s a (j+1)+Aj s (a+(j+1))-128/\64*CR s a (j+1)+Aj s (a+(j+1))-128<_
  omega
theorem FM(h:GM s a k)(c:a+k<s.size)(d:1<=k->EL (Aj s a) k (Aj s (a+k))=true):GM s a (k+1):=by
 intro i b e;by_cases g:i=k
 .subst g;exact⟨c,d b⟩
 .exact h i b Zj
theorem Mv(d:n=AJ s a)(b:1<=k)(c:k<n)(h:¬(a+k<s.size/\EL (Aj s a) k (Aj s (a+k))=true)):¬To s a:=by
 rintro⟨_,g⟩;rw[<-d]at g;exact h (g k b c)
theorem Gf:EL c 1 d=De c d:=rfl
theorem EF(h:k≠1):EL c k d=He d:=by unfold EL;rw[Qs h]
theorem DP(h:De c d=true):128<=d/\d<=191:=by
 unfold De at h;by_cases g:d<128\/191<d
 .rw[Qr g]at h;cases h
 .omega
theorem Vx(g:AJ s a≠0)(f:n<=4)(h:GM s a n)(j:Nat)(b:1<=j)(c:j<=n):0<=CR s a j/\CR s a j<67108864:=by
 have:=OE g f h j b c
 have e:(64:Int)^(j-1)<=64^3:=by
  have d:j=1\/j=2\/j=3\/j=4:=Zj;rcases d with rfl|rfl|rfl|rfl<;>decide
 have:(64:Int)^3=262144:=ZM;omega
def NE(s:BY)(a:Nat):Bool:=
 decide (AJ s a≠0)&&decide (a+AJ s a<=s.size)&&
  (decide (AJ s a<2)||De (Aj s a) (Aj s (a+1)))&&
  (decide (AJ s a<3)||He (Aj s (a+2)))&&(decide (AJ s a<4)||He (Aj s (a+3)))
theorem El(l:a<s.size):NE s a=true↔To s a:=by
 have f:=Io (Aj s a);rw[show AV (Aj s a)=AJ s a from rfl]at f;unfold NE To GM;simp only[Bool.and_eq_true,Bool.or_eq_true,decide_eq_true_eq];constructor
 .rintro⟨⟨⟨⟨c,b⟩,d⟩,e⟩,h⟩;refine⟨c,fun i j k=>⟨Zj, ?_⟩⟩;have hi:i=1\/i=2\/i=3:=Zj;rcases hi with rfl|rfl|rfl
  .rw[Gf];exact d.resolve_left Zj
  .rw[EF Zj];exact e.resolve_left Zj
  .rw[EF Zj];exact h.resolve_left Zj
 .rintro⟨c,b⟩;refine⟨⟨⟨⟨c, ?_⟩, ?_⟩, ?_⟩, ?_⟩
  .by_cases g:AJ s a=1
   .omega
   .have:=(b (AJ s a-1) Zj Zj).1;omega
  .by_cases g:AJ s a<2
   .exact .inl g
   .have:=(b 1 Zj Zj).2;rw[Gf]at this;exact .inr this
  .by_cases g:AJ s a<3
   .exact .inl g
   .have:=(b 2 Zj Zj).2;rw[EF Zj]at this;exact .inr this
  .by_cases g:AJ s a<4
   .exact .inl g
   .have:=(b 3 Zj Zj).2;rw[EF Zj]at this;exact .inr this
def IP(c:Nat):Nat:=if c<194 then 0 else if c=224 then 160 else if c=240 then 144 else if c<=244 then 128 else 0
def EY(c:Nat):Nat:=if c<194 then 0 else if c=237 then 159 else if c=244 then 143 else if c<=244 then 191 else 0
theorem TN(d:Nat)(h:2<=AV c):De c d=decide (IP c<=d/\d<=EY c):=by
 have a:194<=c/\c<=244:=by
  unfold AV at h;split at h
  .omega
  .split at h
   .omega
   .split at h
    .omega
    .split at h
     .omega
     .omega
 unfold De IP EY;rw[Bool.eq_iff_iff];repeat' split
 all_goals simp
 all_goals omega
def Ch(s:BY):Nat->Nat->Option (List Int)
 |0,p=>if s.size<=p then some []else none
 |k+1,p=>if s.size<=p then some []else if NE s p then(Ch s k (p+AJ s p)).map (GY s p::·)else none
def Sb(s:BY):Option (List Int):=Ch s s.size 0
def Al(s:BY):Bool:=(Sb s).isSome
def Inv(s:BY)(k m h:Nat):Prop:=
 m<=k/\k<=s.size/\(m=0\/(m<AJ s (k-m)/\GM s (k-m) m/\h=Aj s (k-m)))/\∃f,s.size<=k-m+f/\(Ch s f (k-m)).isSome=Al s
theorem N6(s:BY)(h:Nat):Inv s 0 0 h:=⟨Zj,Zj,.inl rfl,s.size,Zj,rfl⟩
theorem Sc(h:NE s p=true)(a:p<s.size)(c:s.size<=p+f):∃g,f=g+1/\s.size<=p+AJ s p+g/\
  (Ch s f p).isSome=(Ch s g (p+AJ s p)).isSome:=by
 obtain⟨g,rfl⟩:∃g,f=g+1:=⟨f-1,Zj⟩;have b:=((El a).1 h).1;refine⟨g,rfl,Zj, ?_⟩;simp[Ch,h,show ¬s.size<=p by omega]
theorem Js(h:NE s p=false)(a:p<s.size):(Ch s f p).isSome=false:=by
 cases f<;>simp[Ch,h,show ¬s.size<=p by omega]
theorem Xh(h:AJ s p=0):NE s p=false:=by unfold NE;simp[h]
theorem WI(i:Inv s k 0 h)(a:k<s.size)(c:AV (Aj s k)=0):Al s=false:=by
 obtain⟨_,_,_,f,_,b⟩:=i;rw[<-b];exact Js (Xh c) a
theorem QT(i:Inv s k m h)(j:k-m<s.size)(d:NE s (k-m)=true)(q:k<s.size)(e:k-m+AJ s (k-m)=k+1)(a:Nat):Inv s (k+1) 0 a:=by
 obtain⟨n,o,_,f,b,l⟩:=i;obtain⟨g,rfl,p,c⟩:=Sc d j b;refine⟨Zj,Zj,.inl rfl,g,Zj, ?_⟩;rw[<-l,c,e,Nat.sub_zero]
theorem Uj(i:Inv s k 0 h)(b:k<s.size)(f:AV (Aj s k)=1)(a:Nat):Inv s (k+1) 0 a:=by
 have d:NE s k=true:=(El b).2 ⟨by unfold AJ;omega,fun j e c=>by unfold AJ at c;omega⟩;exact QT i Zj d b (by show k+AJ s k=k+1;unfold AJ;omega) a
theorem QV(i:Inv s k 0 h)(l:k<s.size)(m:2<=AV (Aj s k)):Inv s (k+1) 1 (Aj s k):=by
 obtain⟨d,e,_,f,g,a⟩:=i;refine⟨Zj,Zj,.inr ⟨?_, ?_, ?_⟩,f,Zj, ?_⟩
 .show 1<AV (Aj s (k+1-1));rw[Nat.add_sub_cancel];omega
 .intro j b c;omega
 .simp
 .simpa using a
theorem WH(i:Inv s k m h)(q:1<=m)(p:k<s.size)(g:m+1<AV h)(c:EL h m (Aj s k)=true):Inv s (k+1) (m+1) h:=by
 obtain⟨l,n,a,f,o,d⟩:=i;obtain⟨j,b,rfl⟩:=a.resolve_left Zj;have e:k+1-(m+1)=k-m:=Zj;refine⟨Zj,Zj,.inr ⟨by rw[e];exact g, ?_,by rw[e]⟩,f,Zj,by rw[e];exact d⟩;rw[e];refine FM b Zj fun _=> ?_;rw[show k-m+m=k from by omega];exact c
theorem QU(i:Inv s k m h)(t:1<=m)(g:k<s.size)(j:m+1=AV h)(e:EL h m (Aj s k)=true)(a:Nat):Inv s (k+1) 0 a:=by
 have n:=i;obtain⟨p,q,c,f,r,u⟩:=i;obtain⟨o,d,rfl⟩:=c.resolve_left Zj;have b:k-m<s.size:=Zj;have l:AJ s (k-m)=m+1:=j.symm;refine QT n b ((El b).2 ⟨Zj, ?_⟩) g Zj a;rw[l];refine FM d Zj fun _=> ?_;rw[show k-m+m=k from by omega];exact e
theorem Ug(i:Inv s k m h)(e:1<=m)(q:k<s.size)(d:EL h m (Aj s k)=false):Al s=false:=by
 obtain⟨l,n,c,f,p,j⟩:=i;obtain⟨b,o,rfl⟩:=c.resolve_left Zj;have a:k-m<s.size:=Zj;rw[<-j];refine Js ?_ a;cases g:NE s (k-m)with
 |false=>rfl
 |true=>
  have:=(((El a).1 g).2 m e b).2;rw[show k-m+m=k from by omega,d]at this;cases this
theorem QW(i:Inv s k m h)(j:1<=m):m<AV h/\m<=3/\h<256:=by
 obtain⟨c,d,b,f,g,l⟩:=i;obtain⟨a,e,rfl⟩:=b.resolve_left Zj;have:=Io (Aj s (k-m));have:=Gb s (k-m);unfold AJ at a;omega
theorem Ui(i:Inv s s.size 0 h):Al s=true:=by
 obtain⟨_,_,_,f,_,a⟩:=i;rw[<-a];cases f<;>simp[Ch]
theorem Uh(i:Inv s s.size m h)(d:1<=m):Al s=false:=by
 obtain⟨j,k,c,f,n,e⟩:=i;obtain⟨b,l,rfl⟩:=c.resolve_left Zj;have a:s.size-m<s.size:=Zj;rw[<-e];refine Js ?_ a;cases g:NE s (s.size-m)with
 |false=>rfl
 |true=>
  have:=(((El a).1 g).2 m d b).1;omega
def CB(s:BY):List Nat:=(List.range s.size).map (Aj s)
def BT(x y:Nat):Int:=
 if 240<=x/\¬240<=y/\238<=y then-1 else if 240<=y/\¬240<=x/\238<=x then 1 else if x<y then-1 else 1
def F5:List Nat->List Nat->Int
 |[],[]=>0
 |[],_::_=> -1
 |_::_,[]=>1
 |x::a,y::b=>if x=y then F5 a b else BT x y
def BK(a b:BY):Int:=F5 (CB a) (CB b)
theorem EE(s:BY):(CB s).length=s.size:=by simp[CB]
theorem Bh(h:i<s.size):(CB s).drop i=Aj s i::(CB s).drop (i+1):=by
 rw[List.drop_eq_getElem_cons (by rw[EE];exact h)]
 congr 1
 simp[CB]
theorem Fe(h:s.size<=i):(CB s).drop i=[]:=List.drop_of_length_le (by rw[EE];exact h)
theorem Is(s:BY):∀c∈CB s,c<256:=by
 intro c a;obtain⟨i,_,rfl⟩:=List.mem_map.1 a;exact Gb s i
def rk(c:Nat):Nat:=if c<238 then c else if c<240 then c+16 else c-2
theorem XG(a:x<256)(b:y<256)(h:rk x=rk y):x=y:=by
 unfold rk at h;repeat' split at h
 all_goals omega
theorem SU(a:x<256)(b:y<256)(h:x≠y):BT x y=if rk x<rk y then-1 else 1:=by
 unfold BT rk;repeat' split
 all_goals first|rfl|omega
def Fu:List Nat->List Nat->Int
 |[],[]=>0
 |[],_::_=> -1
 |_::_,[]=>1
 |x::a,y::b=>if x=y then Fu a b else if x<y then-1 else 1
theorem Qz:∀(a b:List Nat),(∀c∈a,c<256)->(∀c∈b,c<256)->F5 a b=Fu (a.map rk) (b.map rk)
 |[],[],_,_=>rfl
 |[],_::_,_,_=>rfl
 |_::_,[],_,_=>rfl
 |x::a,y::b,f,g=>by
  have i:=f x Zh;have j:=g y Zh;simp only[F5,List.map_cons,Fu];by_cases h:x=y
  .subst h;rw[Qr rfl,Qr rfl];exact Qz a b (fun c d=>f c (by simp[d])) (fun c d=>g c (by simp[d]))
  .rw[Qs h,Qs (fun e=>h (XG i j e)),SU i j h]
theorem Rg:∀a:List Nat,Fu a a=0
 |[]=>rfl
 |x::a=>by simp[Fu,Rg a]
theorem _root_.zf{p:Prop}(h:p:=by simp[Fu]at h):p:=h
theorem WP:∀{a b:List Nat},Fu a b=0->a=b
 |[],[],_=>rfl
 |[],_::_,h=>zf
 |_::_,[],h=>zf
 |x::a,y::b,h=>by
  simp only[Fu]at h;by_cases e:x=y
  .rw[Qr e]at h;rw[e,WP h]
  .rw[Qs e]at h;split at h<;>omega
theorem Um:∀(a b:List Nat),Fu b a= -Fu a b
 |[],[]=>rfl
 |[],_::_=>rfl
 |_::_,[]=>rfl
 |x::a,y::b=>by
  simp only[Fu];by_cases e:x=y
  .rw[Qr e,Qr e.symm,Um a b]
  .rw[Qs e,Qs (fun h=>e h.symm)];split<;>split<;>omega
theorem Oe:∀{a b c:List Nat},Fu a b<0->Fu b c<0->Fu a c<0
 |[],[],_,h,_=>zf
 |[],_::_,[],_,h=>zf
 |[],_::_,_::_,_,_=>by simp[Fu]
 |_::_,[],_,h,_=>zf
 |_::_,_::_,[],_,h=>zf
 |x::a,y::b,z::c,e,d=>by
  simp only[Fu]at*;by_cases g:x=y
  .subst g;rw[Qr rfl]at e;by_cases f:x=z
   .rw[Qr f]at d|-;exact Oe e d
   .rw[Qs f]at d|-;exact d
  .rw[Qs g]at e;by_cases f:y=z
   .subst f;rw[Qs g];exact e
   .rw[Qs f]at d;by_cases i:x=z
    .subst i;split at e<;>split at d<;>omega
    .rw[Qs i];split at e<;>split at d<;>split<;>omega
theorem Hy(a b:BY):BK a b=Fu ((CB a).map rk) ((CB b).map rk):=Qz _ _ (Is a) (Is b)
theorem SQ{a:BY}(h:CB a=CB b):a=b:=by
 have j:a.size=b.size:=by rw[<-EE a,h,EE]
 apply ByteArray.ext;apply Array.ext
 .exact j
 .intro i f g;have e:(CB a)[i]? =(CB b)[i]? :=by rw[h]
  have c:i<a.size:=f;have d:i<b.size:=g;simp only[CB,List.getElem?_map,List.getElem?_range c,List.getElem?_range d,Option.map_some,BV c,BV d]at e;injection e with e
  exact UInt8.toNat_inj.1 e
theorem Mh:∀{a b:List Nat},(∀c∈a,c<256)->(∀c∈b,c<256)->a.map rk=b.map rk->a=b
 |[],[],_,_,_=>rfl
 |[],_::_,_,_,h=>by simp at h
 |_::_,[],_,_,h=>by simp at h
 |x::a,y::b,e,f,h=>by
  simp only[List.map_cons,List.cons.injEq]at h;rw[XG (e x Zh) (f y Zh) h.1,Mh (fun c d=>e c (by simp[d])) (fun c d=>f c (by simp[d])) h.2]
theorem FJ{a:BY}(h:BK a b=0):a=b:=by
 rw[Hy]at h;exact SQ (Mh (Is a) (Is b) (WP h))
theorem Gc(a:BY):BK a a=0:=by rw[Hy];exact Rg _
theorem Ej(a b:BY):BK b a= -BK a b:=by rw[Hy,Hy];exact Um _ _
theorem Ev{a c:BY}(d:BK a b<0)(e:BK b c<0):BK a c<0:=by rw[Hy]at*;exact Oe d e
end Utf
namespace Tree
variable{s:BY}{ks:List BY}{l:List Tr}
def AY(ks:List BY):List BY:=ks.mergeSort fun a b=> !decide (Utf.BK b a<0)
theorem DG(ks:List BY):(AY ks).Perm ks:=List.mergeSort_perm _ _
theorem A3(ks:List BY):(AY ks).length=ks.length:=(DG ks).length_eq
theorem D9:s∈AY ks↔s∈ks:=(DG ks).mem_iff
def A5(ks:List BY)(s:BY):Nat:=ks.findIdx fun t=>decide (t=s)
theorem Dk(h:s∈ks):A5 ks s<ks.length:=List.findIdx_lt_length_of_exists ⟨s,h,Zh⟩
theorem Gk(h:s∈ks):ks[A5 ks s]? =some s:=by
 have a:=Dk h;rw[Q9 a];have:=List.findIdx_getElem (xs:=ks) (p:=fun t=>decide (t=s)) (w:=a);simp only[decide_eq_true_eq]at this;exact congrArg some this
theorem GU(c:ks.Nodup)(i:Nat)(hi:i<ks.length):A5 ks ks[i]=i:=by
 have a:=Gk (ks:=ks) (s:=ks[i]) (List.getElem_mem hi);have b:ks[i]? =some ks[i]:=Q9 hi;exact((List.getElem?_inj hi c).1 (b.trans a.symm)).symm
def LA(ks:List BY)(l:List Tr):List Tr:=(AY ks).map fun s=>l.getD (A5 ks s) .null
def D1(ks:List BY)(l:List Tr):Tr:= .obj (AY ks) (LA ks l)
theorem DD(ks:List BY)(l:List Tr):(LA ks l).length=ks.length:=by unfold LA;rw[List.length_map,A3]
theorem Rp(b:ks.length=l.length){i:Nat}(h:(AY ks)[i]? =some s):∃t,l[A5 ks s]? =some t/\(LA ks l)[i]? =some t:=by
 have a:s∈ks:=D9.1 (Qi h);have c:=Dk a;refine⟨l[A5 ks s]' Zj,Q9 Zj, ?_⟩;unfold LA;rw[List.getElem?_map,h,Option.map_some,List.getD_eq_getElem?_getD,Q9 Zj];rfl
theorem Ku(f:ks.Nodup)(e:ks.length=l.length):(LA ks l).Perm l:=by
 have c:(LA ks l).Perm (ks.map fun s=>l.getD (A5 ks s) .null):=(DG ks).map _
 have d:(ks.map fun s=>l.getD (A5 ks s) .null)=l:=by
  apply List.ext_getElem
  .rw[List.length_map,e]
  .intro i a b;rw[List.getElem_map,GU f i (by simpa using a),List.getD_eq_getElem?_getD,Q9 b];rfl
 rwa[d]at c
theorem Sz.add_comm(a b:Sz):a.add b=b.add a:=by unfold Sz.add;rw[Nat.add_comm,Nat.add_comm a.bytes,Nat.max_comm]
theorem Sn{a b:List Tr}(h:a.Perm b):Bk a=Bk b:=by
 induction h with
 |nil=>rfl
 |cons x _ e=>simp only[Bk,e]
 |swap x y l=>
  simp only[Bk];rw[<-Sz.add_assoc,<-Sz.add_assoc,Sz.add_comm (Ag y)]
 |trans _ _ c d=>exact c.trans d
theorem OU{a b:List BY}(h:a.Perm b):Ay a=Ay b:=by
 unfold Ay;exact(h.map _).sum_nat
theorem Kd(b:ks.Nodup)(a:ks.length=l.length):Ag (D1 ks l)=(Bk l).over (Ay ks):=by
 unfold D1;rw[Ag,Sn (Ku b a),OU (DG ks)]
section
variable {α:Type} (k:α->BY)
def Hp(a b:α):Bool:= !decide (Utf.BK (k b) (k a)<0)
def Hl(l:List α):List α:=l.mergeSort (Hp k)
theorem DW{a b:α}:Hp k a b=true↔Utf.BK (k a) (k b)<=0:=by
 unfold Hp;rw[Utf.Ej (k a) (k b)];simp
theorem Oc(a b:α):(Hp k a b||Hp k b a)=true:=by
 rw[Bool.or_eq_true,DW,DW,Utf.Ej (k a) (k b)];omega
theorem Od(a b c:α)(d:Hp k a b=true)(e:Hp k b c=true):Hp k a c=true:=by
 rw[DW]at d e|-;by_cases f:Utf.BK (k a) (k b)=0
 .rw[Utf.FJ f];exact e
 .by_cases g:Utf.BK (k b) (k c)=0
  .rw[<-Utf.FJ g];exact d
  .exact Int.le_of_lt (Utf.Ev (b:=k b) Zj Zj)
theorem WN{a b:α}(d:Hp k a b=true)(c:Hp k b a=true):k a=k b:=by
 rw[DW]at*;rw[Utf.Ej (k a) (k b)]at c;exact Utf.FJ Zj
theorem DU:∀{l m:List α},l.Perm m->l.Pairwise (fun a b=>Hp k a b=true)->m.Pairwise (fun a b=>Hp k a b=true)->(∀a∈l,∀b∈l,k a=k b->a=b)->l=m
 |[],m,c,_,_,_=>by have:=c.length_eq;cases m with|nil=>rfl|cons _ _=>simp at this
 |x::t,[],c,_,_,_=>by have:=c.length_eq;simp at this
 |x::t,y::u,c,e,f,hi=>by
  have p:x∈y::u:=c.mem_iff.1 Zh;have g:y∈x::t:=c.mem_iff.2 Zh
  have q:x=y:=by
   rcases Qh.1 p with h|h
   .exact h
   .rcases Qh.1 g with d|d
    .exact d.symm
    .have i:=(List.pairwise_cons.1 e).1 y d;have j:=(List.pairwise_cons.1 f).1 x h;exact hi x Zh y g (WN k i j)
  subst q;rw[DU (c.cons_inv) (List.pairwise_cons.1 e).2 (List.pairwise_cons.1 f).2 (fun a n b o=>hi a (by simp[n]) b (by simp[o]))]
theorem Gs(l:List α):(Hl k l).Perm l:=List.mergeSort_perm _ _
theorem Cs(l:List α):(Hl k l).Pairwise (fun a b=>Hp k a b=true):=List.pairwise_mergeSort (Od k) (Oc k) l
theorem Jt(l:List α):(Hl k l).length=l.length:=(Gs k l).length_eq
theorem Ka{l:List α}{x:α}:x∈Hl k l↔x∈l:=(Gs k l).mem_iff
theorem OG(l m:List α)(hi:∀a∈l++m,∀b∈l++m,k a=k b->a=b):List.merge (Hl k l) (Hl k m) (Hp k)=Hl k (l++m):=by
 have c:(List.merge (Hl k l) (Hl k m) (Hp k)).Perm (l++m):=(List.merge_perm_append (Hp k)).trans ((Gs k l).append (Gs k m));refine DU k (c.trans (Gs k (l++m)).symm) ?_ (Cs k _) fun a d b e=>hi a (c.mem_iff.1 d) b (c.mem_iff.1 e);exact List.pairwise_merge (Od k) (Oc k) _ _ (Cs k l) (Cs k m)
theorem Uw:Hl k []=[]:=by unfold Hl;exact List.mergeSort_nil
theorem Ux(x:α):Hl k [x]=[x]:=by unfold Hl;exact List.mergeSort_singleton x
theorem FQ(l:List α):List.merge l [] (Hp k)=l:=by cases l<;>simp[List.merge]
theorem FP(l:List α):List.merge [] l (Hp k)=l:=by simp[List.merge]
theorem Mj{a b:α}{l m:List α}(h:Utf.BK (k a) (k b)<=0):List.merge (a::l) (b::m) (Hp k)=a::List.merge l (b::m) (Hp k):=by
 rw[List.merge,Qr ((DW k).2 h)]
theorem K9{a b:α}{l m:List α}(h:¬Utf.BK (k a) (k b)<=0):List.merge (a::l) (b::m) (Hp k)=b::List.merge (a::l) m (Hp k):=by
 rw[List.merge,Qs (fun g=>h ((DW k).1 g))]
end
theorem VE(ks:List BY):AY ks=Hl (fun s=>s) ks:=rfl
theorem PF(l m:List BY):List.merge (AY l) (AY m) (Hp fun s=>s)=AY (l++m):=OG (fun s=>s) l m (fun _ _ _ _ h=>h)
theorem TU{l:List BY}(g:l.Pairwise (fun a b=>Hp (fun s=>s) a b=true)):l.Nodup↔∀i s,l[i]? =some s->l[i+1]? ≠some s:=by
 constructor
 .intro m i s c d;obtain⟨f,j⟩:=Qc.1 c;obtain⟨p,q⟩:=Qc.1 d;have:=(List.getElem?_inj f m).1 (c.trans d.symm);omega
 .induction l with
  |nil=>intro _;exact List.nodup_nil
  |cons x t o=>
   intro h;refine List.nodup_cons.2 ⟨fun k=> ?_,o (List.pairwise_cons.1 g).2 fun i s c d=>h (i+1) s (by simpa using c) (by simpa using d)⟩;cases t with
   |nil=>cases k
   |cons y u=>
    rcases Qh.1 k with e|n
    .exact h 0 x rfl (by rw[e];rfl)
    .have f:=(List.pairwise_cons.1 g).1 y Zh;have j:=(List.pairwise_cons.1 (List.pairwise_cons.1 g).2).1 x n;have:=WN (fun s=>s) f j;exact h 0 x rfl (by have e:x=y:=this;rw[e];rfl)
theorem Lb(ks:List BY):(AY ks).Nodup↔ks.Nodup:=(DG ks).nodup_iff
end Tree
namespace Utf
variable{s:BY}{e:List Nat}{r:Nat}{p:Prop}
def Be(r:Nat):List Nat:=if r<65536 then [r]else [55296+(r-65536)/1024,56320+(r-65536) % 1024]
inductive Form:List Nat->Nat->Prop
 |one (x:Nat) (h:x<128):Form [x] x
 |two (x y:Nat) (h:194<=x/\x<=223/\128<=y/\y<=191):Form [x,y] (64*(x-192)+(y-128))
 |three (x y z:Nat) (h:224<=x/\x<=239/\128<=y/\y<=191/\(x=224->160<=y)/\(x=237->y<=159)/\128<=z/\z<=191):Form [x,y,z] (4096*(x-224)+64*(y-128)+(z-128))
 |four (x y z u:Nat) (h:240<=x/\x<=244/\128<=y/\y<=191/\(x=240->144<=y)/\(x=244->y<=143)/\128<=z/\z<=191/\128<=u/\u<=191):
  Form [x,y,z,u] (262144*(x-240)+4096*(y-128)+64*(z-128)+(u-128))
inductive Hq:List Nat->List Nat->Prop
 |nil:Hq [] []
 |cons {e:List Nat} {r:Nat} {t:List Nat} {l:List Nat} (h:Form e r) (k:Hq t l):Hq (e++t) (r::l)
theorem Form.ne(h:Form e r):e≠[]:=by cases h<;>simp
theorem EZ{a b:Nat}(t u:List Nat):Fu (a::t) (b::u)=if a=b then Fu t u else if a<b then-1 else 1:=by simp[Fu]
theorem Sw(r:Nat):∃a t,Be r=a::t:=by unfold Be;split<;>exact⟨_,_,rfl⟩
theorem IM(x y:Nat)(a b:List Nat):F5 (x::a) (y::b)=if x=y then F5 a b else BT x y:=by simp[F5]
theorem Wz{f:List Nat}{s:Nat}(m:Form e r)(k:Form f s):(e=f/\r=s)\/∀t u d c,F5 (e++t) (f++u)=Fu (Be r++d) (Be s++c):=by
 cases m with
 |one _ h=>
  cases k with
  |one _ j=>
   by_cases g:r=s
   .left;subst g;exact⟨rfl,rfl⟩
   .right;intro t u d c
    simp only[Be,Qr (show r<65536 by omega),Qr (show s<65536 by omega),Qo,List.nil_append,IM,EZ,Qs g,BT];exact zb
  |two a b j=>
   right;intro t u d c;simp only[Be,Qr (show r<65536 by omega),Qr (show 64*(a-192)+(b-128)<65536 by omega),Qo,List.nil_append,IM,EZ,BT];exact zb
  |three a b i j=>
   right;intro t u d c;simp only[Be,Qr (show r<65536 by omega),Qr (show 4096*(a-224)+64*(b-128)+(i-128)<65536 by omega),Qo,List.nil_append,IM,EZ,BT];exact zb
  |four a b i c j=>
   right;intro t u d l;simp only[Be,Qr (show r<65536 by omega),Qs (show ¬262144*(a-240)+4096*(b-128)+64*(i-128)+(c-128)<65536 by omega),Qo,List.nil_append,IM,EZ,BT];exact zb
 |two x y h=>
  cases k with
  |one _ j=>
   right;intro t u d c;simp only[Be,Qr (show s<65536 by omega),Qr (show 64*(x-192)+(y-128)<65536 by omega),Qo,List.nil_append,IM,EZ,BT];exact zb
  |two a b j=>
   by_cases g:x=a/\y=b
   .left;obtain⟨rfl,rfl⟩:=g;exact⟨rfl,rfl⟩
   .right;intro t u d c
    simp only[Be,Qr (show 64*(a-192)+(b-128)<65536 by omega),Qr (show 64*(x-192)+(y-128)<65536 by omega),Qo,List.nil_append,IM,EZ,BT];exact zb
  |three a b i j=>
   right;intro t u d c;simp only[Be,Qr (show 64*(x-192)+(y-128)<65536 by omega),Qr (show 4096*(a-224)+64*(b-128)+(i-128)<65536 by omega),Qo,List.nil_append,IM,EZ,BT];exact zb
  |four a b i c j=>
   right;intro t u d l;simp only[Be,Qr (show 64*(x-192)+(y-128)<65536 by omega),Qs (show ¬262144*(a-240)+4096*(b-128)+64*(i-128)+(c-128)<65536 by omega),Qo,List.nil_append,IM,EZ,BT];exact zb
 |three x y z h=>
  cases k with
  |one _ j=>
   right;intro t u d c;simp only[Be,Qr (show s<65536 by omega),Qr (show 4096*(x-224)+64*(y-128)+(z-128)<65536 by omega),Qo,List.nil_append,IM,EZ,BT];exact zb
  |two a b j=>
   right;intro t u d c;simp only[Be,Qr (show 64*(a-192)+(b-128)<65536 by omega),Qr (show 4096*(x-224)+64*(y-128)+(z-128)<65536 by omega),Qo,List.nil_append,IM,EZ,BT];exact zb
  |three a b i j=>
   by_cases g:x=a/\y=b/\z=i
   .left;obtain⟨rfl,rfl,rfl⟩:=g;exact⟨rfl,rfl⟩
   .right;intro t u d c
    simp only[Be,Qr (show 4096*(a-224)+64*(b-128)+(i-128)<65536 by omega),Qr (show 4096*(x-224)+64*(y-128)+(z-128)<65536 by omega),Qo,List.nil_append,IM,EZ,BT];exact zb
  |four a b i c j=>
   right;intro t u d l;simp only[Be,Qr (show 4096*(x-224)+64*(y-128)+(z-128)<65536 by omega),Qs (show ¬262144*(a-240)+4096*(b-128)+64*(i-128)+(c-128)<65536 by omega),Qo,List.nil_append,IM,EZ,BT];exact zb
 |four x y z v h=>
  cases k with
  |one _ j=>
   right;intro t u d c;simp only[Be,Qr (show s<65536 by omega),Qs (show ¬262144*(x-240)+4096*(y-128)+64*(z-128)+(v-128)<65536 by omega),Qo,List.nil_append,IM,EZ,BT];exact zb
  |two a b j=>
   right;intro t u d c;simp only[Be,Qr (show 64*(a-192)+(b-128)<65536 by omega),Qs (show ¬262144*(x-240)+4096*(y-128)+64*(z-128)+(v-128)<65536 by omega),Qo,List.nil_append,IM,EZ,BT];exact zb
  |three a b i j=>
   right;intro t u d c;simp only[Be,Qr (show 4096*(a-224)+64*(b-128)+(i-128)<65536 by omega),Qs (show ¬262144*(x-240)+4096*(y-128)+64*(z-128)+(v-128)<65536 by omega),Qo,List.nil_append,IM,EZ,BT];exact zb
  |four a b i v' j=>
   by_cases g:x=a/\y=b/\z=i/\v=v'
   .left;obtain⟨rfl,rfl,rfl,rfl⟩:=g;exact⟨rfl,rfl⟩
   .right;intro t u d c
    simp only[Be,Qs (show ¬262144*(a-240)+4096*(b-128)+64*(i-128)+(v'-128)<65536 by omega),Qs (show ¬262144*(x-240)+4096*(y-128)+64*(z-128)+(v-128)<65536 by omega),Qo,List.nil_append,IM,EZ,BT];exact zb
theorem UP(e t u:List Nat):F5 (e++t) (e++u)=F5 t u:=by
 induction e with
 |nil=>rfl
 |cons x e a=>simp[F5,a]
theorem WQ(e t u:List Nat):Fu (e++t) (e++u)=Fu t u:=by
 induction e with
 |nil=>rfl
 |cons x e a=>simp[Fu,a]
theorem _root_.zc(h:p:=by
 obtain⟨x,t,rfl⟩:∃x t,e=x::t:=by cases e with|nil=>exact absurd rfl h.ne|cons x t=>exact⟨x,t,rfl⟩
 obtain⟨y,u,c⟩:=Sw r;simp[F5,Fu,c]):p:=h
theorem N3:∀{a b l m:List Nat},Hq a l->Hq b m->F5 a b=Fu (l.flatMap Be) (m.flatMap Be)
 |_,_,_,_,.nil,.nil=>rfl
 |_,_,_,_,.nil,.cons (e:=e) (r:=r) h k=>by
  exact zc
 |_,_,_,_,.cons (e:=e) (r:=r) h k,.nil=>by
  exact zc
 |_,_,_,_,.cons h k,.cons d f=>by
  rcases Wz h d with⟨rfl,rfl⟩|g
  .rw[List.flatMap_cons,List.flatMap_cons,UP,WQ];exact N3 k f
  .rw[List.flatMap_cons,List.flatMap_cons];exact g _ _ _ _
theorem _root_.zd(h:p:=by
 unfold AV at d;repeat' split at d
 all_goals omega):p:=h
theorem _root_.ze(h:p:=by
 unfold De at a;repeat' split at a
 all_goals(try simp at a)
 all_goals omega):p:=h
theorem Xg{p:Nat}(l:p<s.size)(h:NE s p=true):∃r:Nat,GY s p=r/\r<1114112/\Form (((CB s).drop p).take (AJ s p)) r:=by
 have v:=(El l).1 h;obtain⟨t,e⟩:=v;have q:=Io (Aj s p);rw[show AV (Aj s p)=AJ s p from rfl]at q;obtain⟨n,f⟩:∃n,AJ s p=n:=⟨_,rfl⟩;have d:AV (Aj s p)=n:=f;unfold GY;rw[f]at t e q|-;have w:=Gb s p;have u:n=1\/n=2\/n=3\/n=4:=Zj;rcases u with rfl|rfl|rfl|rfl
 .have b:Aj s p<128:=by
    exact zd
  refine⟨Aj s p, ?_,Zj, ?_⟩
  .show(Aj s p:Int)-Ig (AJ s p)=_;rw[f];simp[Ig]
  .rw[Bh l];exact .one _ b
 .have b:194<=Aj s p/\Aj s p<=223:=by
    exact zd
  obtain⟨g,a⟩:=e 1 Zj Zj;rw[Gf]at a;have c:=DP a;refine⟨64*(Aj s p-192)+(Aj s (p+1)-128), ?_,Zj, ?_⟩
  .show 64*((Aj s p:Int)-Ig (AJ s p))+Aj s (p+1)-128=_;rw[f];simp[Ig];omega
  .rw[Bh l,Bh g];exact .two _ _ ⟨b.1,b.2,c.1,c.2⟩
 .have b:224<=Aj s p/\Aj s p<=239:=by
    exact zd
  obtain⟨g,a⟩:=e 1 Zj Zj;rw[Gf]at a;have c:=DP a;obtain⟨m,j⟩:=e 2 Zj Zj;rw[EF Zj]at j;have k:128<=Aj s (p+2)/\Aj s (p+2)<=191:=by simpa[He]using j
  have i:(Aj s p=224->160<=Aj s (p+1))/\(Aj s p=237->Aj s (p+1)<=159):=by
   exact ze
  refine⟨4096*(Aj s p-224)+64*(Aj s (p+1)-128)+(Aj s (p+2)-128), ?_,Zj, ?_⟩
  .show 64*(64*((Aj s p:Int)-Ig (AJ s p))+Aj s (p+1)-128)+Aj s (p+2)-128=_;rw[f];simp[Ig];omega
  .rw[Bh l,Bh g,Bh m];exact .three _ _ _ ⟨b.1,b.2,c.1,c.2,i.1,i.2,k.1,k.2⟩
 .have b:240<=Aj s p/\Aj s p<=244:=by
    exact zd
  obtain⟨g,a⟩:=e 1 Zj Zj;rw[Gf]at a;have c:=DP a;obtain⟨m,j⟩:=e 2 Zj Zj;rw[EF Zj]at j;have k:128<=Aj s (p+2)/\Aj s (p+2)<=191:=by simpa[He]using j
  obtain⟨c1,o⟩:=e 3 Zj Zj;rw[EF Zj]at o;have c3:128<=Aj s (p+3)/\Aj s (p+3)<=191:=by simpa[He]using o
  have i:(Aj s p=240->144<=Aj s (p+1))/\(Aj s p=244->Aj s (p+1)<=143):=by
   exact ze
  refine⟨262144*(Aj s p-240)+4096*(Aj s (p+1)-128)+64*(Aj s (p+2)-128)+(Aj s (p+3)-128), ?_,Zj, ?_⟩
  .show 64*(64*(64*((Aj s p:Int)-Ig (AJ s p))+Aj s (p+1)-128)+Aj s (p+2)-128)+Aj s (p+3)-128=_;rw[f];simp[Ig];omega
  .rw[Bh l,Bh g,Bh m,Bh c1];exact .four _ _ _ _ ⟨b.1,b.2,c.1,c.2,i.1,i.2,k.1,k.2,c3.1,c3.2⟩
theorem J6:∀(f p:Nat) (l:List Int),p<=s.size->Ch s f p=some l->∃m:List Nat,l=m.map Int.ofNat/\(∀r∈m,r<1114112)/\Hq ((CB s).drop p) m
 |0,p,l,k,h=>by
  simp only[Ch]at h;split at h
  .injection h with h;subst h;exact⟨[],rfl,Zh,by rw[Fe Zj];exact .nil⟩
  .cases h
 |f+1,p,l,k,h=>by
  simp only[Ch]at h;split at h
  .injection h with h;subst h;exact⟨[],rfl,Zh,by rw[Fe Zj];exact .nil⟩
  .rename_i u;split at h
   .rename_i a;obtain⟨t,c,d⟩:=Option.map_eq_some_iff.1 h;subst d;have i:p+AJ s p<=s.size:=by unfold NE at a;simp at a;omega
    obtain⟨m,rfl,j,g⟩:=J6 f _ t i c;obtain⟨r,n,o,q⟩:=Xg Zj a;refine⟨r::m,by rw[n];rfl,fun x b=>(Qh.1 b).elim (fun e=>e▸o) (fun b=>j x b), ?_⟩;have:=Hq.cons q g;rwa[<-List.drop_drop,List.take_append_drop]at this
   .cases h
theorem FU(h:Al s=true):∃m:List Nat,Sb s=some (m.map Int.ofNat)/\(∀r∈m,r<1114112)/\Hq (CB s) m:=by
 unfold Al at h;obtain⟨l,a⟩:=Option.isSome_iff_exists.1 h;obtain⟨m,rfl,b,c⟩:=J6 s.size 0 l Zj a;exact⟨m,a,b,by simpa using c⟩
def Fq(s:BY):List Nat:=((Sb s).getD []).flatMap fun r=>Be r.toNat
theorem VZ{a b:BY}(e:Al a=true)(f:Al b=true):Fu (Fq a) (Fq b)=BK a b:=by
 obtain⟨l,c,_,d⟩:=FU e;obtain⟨m,g,_,h⟩:=FU f;unfold Fq BK;rw[c,g,N3 d h];simp[List.flatMap_map]
end Utf

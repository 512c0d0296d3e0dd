/- Part 3 of the proof of patchFresh_card. -/
import Derived.Deep.Light
import Derived.Lib.AtoiAll
import Derived.Lib.IndexMore
import Derived.Lib.Replace
import Derived.Lib.SlTrimSet
import Derived.Test.YtamgbmcchhmojaaGreatDoorRows
import Derived.WalkLawsBesides
import Derived.WalkSpells
import Derived.Test.YtamgbmcchhmojaaGreatDoorM02
set_option maxRecDepth 100000
set_option maxHeartbeats 32000000
set_option linter.all false
namespace Ptr
open Go renaming Calls->Cl,TypeId->Ti,Value->Vl,World->Wl
open Go.Value renaming agg->nA,iface->nF,int->nI,pointer->nP,slice->nS,string->nG,tuple->nT
open Go.IntKind renaming i64->nX
open Go.Ending renaming returned->nR
open Go.Obj renaming cells->nC
open Option renaming none->nN,some->nM
section
open Go.Lib
variable{s:BY}{l:List UInt8}{n:Nat}
theorem Wy(l:List UInt8)(a:Nat):a<=l.foldl (fun a c=>10*a+(c.toNat-48)) a:=by
 induction l generalizing a with
 |nil=>exact Q8 _
 |cons c l b=>
  simp only[List.foldl_cons];exact Q7 Zj (b _)
theorem Po(l:List UInt8)(a:Nat)(b:l.all Fi=true)(d:l.foldl (fun a c=>10*a+(c.toNat-48)) a<18446744073709551616):
  parseUint10 a l= .ok (l.foldl (fun a c=>10*a+(c.toNat-48)) a):=by
 induction l generalizing a with
 |nil=>rfl
 |cons c l g=>
  simp only[List.all_cons,Bool.and_eq_true]at b;have f:48<=c.toNat/\c.toNat<=57:=by simpa[Fi]using b.1
  simp only[List.foldl_cons]at d|-;have h:=Wy l (10*a+(c.toNat-48));have e:a*10+(c.toNat-48)=10*a+(c.toNat-48):=Zj;rw[parseUint10,Qr f,Qs Zj,Qs Zj,e];exact g _ b.2 d
theorem PZ(k:Nat)(l:k<=9223372036854775807):atoiAll (decDigits k)= .ok (k:Int):=by
 obtain⟨f,b,g,_,_⟩:=DV k;have d:=Po (decDigits k) 0 b (by show KK (decDigits k)<_;omega);rw[show(decDigits k).foldl (fun a c=>10*a+(c.toNat-48)) 0=k from g]at d;cases e:decDigits k with
 |nil=>exact absurd e f
 |cons c r=>
  rw[e]at b d;simp only[List.all_cons,Bool.and_eq_true]at b;have j:48<=c.toNat/\c.toNat<=57:=by simpa[Fi]using b.1
  have h:¬(c.toNat=43\/c.toNat=45):=Zj;unfold atoiAll parseMag;simp only[Qs h,reduceCtorEq,if_false,d];have i:¬c.toNat=45:=Zj;simp only[i,not_false_eq_true,true_and,false_and,if_false];rw[Qs Zj]
theorem Mc(k:Nat):itoa (k:Int)=decDigits k:=by
 unfold itoa;rw[Qs Zj];rfl
theorem WD{i:Int}(h:atoiAll s.data.toList= .ok i)(b:0<=i)(c:i<n)(a:itoa i=s.data.toList):bL s n=some i.toNat:=by
 obtain⟨k,rfl⟩:∃k:Nat,i=k:=⟨i.toNat,Zj⟩;rw[Mc]at a;exact GN.2 ⟨a.symm,by simp;omega⟩
theorem FN(d:n<=9223372036854775807)(h:∀i:Int,atoiAll s.data.toList= .ok i->0<=i->i<n->itoa i≠s.data.toList):bL s n=none:=by
 cases b:bL s n with
 |none=>rfl
 |some k=>
  obtain⟨a,c⟩:=GN.1 b;refine absurd ?_ (h k ?_ Zj Zj)
  .rw[Mc,a]
  .rw[a];exact PZ k Zj
theorem QO:∀(l:List UInt8),index l [47]=if l.takeWhile Bc=l then-1 else((l.takeWhile Bc).length:Int)
 |[]=>rfl
 |c::r=>by
  have f:=QO r;by_cases a:c=47
  .subst a;have:(47::r:List UInt8).takeWhile Bc=[]:=rfl;rw[this,Qs Zh];unfold index;simp[List.isPrefixOf]
  .have b:Bc c=true:=by simpa[Bc]using a
   have d:List.isPrefixOf [47] (c::r)=false:=by simp[List.isPrefixOf];exact fun e=>a e.symm
   rw[List.takeWhile_cons,Qr b];unfold index;rw[d];simp only[Bool.false_eq_true,if_false,List.cons.injEq,true_and];rw[f];by_cases h:r.takeWhile Bc=r
   .rw[Qr h,Qr h];rfl
   .rw[Qs h,Qs h];have:(((r.takeWhile Bc).length:Int)== -1)=false:=by rw[Qq];omega
    rw[this];simp
theorem YX(l:List UInt8):l.take (l.takeWhile Bc).length=l.takeWhile Bc:=by
 have:=List.takeWhile_prefix (l:=l) Bc;exact(List.prefix_iff_eq_take.1 this).symm
theorem YW(l:List UInt8):l.drop (l.takeWhile Bc).length=l.dropWhile Bc:=by
 have h:l.takeWhile Bc++l.dropWhile Bc=l:=List.takeWhile_append_dropWhile;have a:(l.takeWhile Bc++l.dropWhile Bc).drop (l.takeWhile Bc).length=l.dropWhile Bc:=List.drop_left;rwa[h]at a
theorem Zp(l:List UInt8):(cut l [47]).1=l.takeWhile Bc:=by
 unfold cut;rw[QO];by_cases h:l.takeWhile Bc=l
 .rw[Qr h,Qs Zj];exact h.symm
 .rw[Qs h,Qr Zj];show l.take (Int.toNat _)=_
  rw[Int.toNat_natCast];exact YX l
def rA(a new:List UInt8)(f:Nat)(s:List UInt8):List UInt8:=replaceK a new (countFrom a f s) s
theorem TL(b new:List UInt8)(f:Nat)(c:b≠[]):rA b new f []=[]:=by
 unfold rA;cases f with
 |zero=>rfl
 |succ f=>
  have:index [] b= -1:=by
   unfold index;cases b with
   |nil=>exact absurd rfl c
   |cons a t=>rfl
  unfold countFrom;rw[this];rfl
theorem XE(a new:List UInt8)(f:Nat)(b:UInt8)(l:List UInt8)(h:a.isPrefixOf (b::l)=true):rA a new (f+1) (b::l)=new++rA a new f ((b::l).drop a.length):=by
 have hi:index (b::l) a=0:=by unfold index;rw[Qr h]
 unfold rA;rw[countFrom,hi];simp only[show((0:Int)== -1)=false from rfl,Bool.false_eq_true,if_false,Int.toNat_zero,Nat.zero_add];rw[Nat.add_comm 1,replaceK_hit _ _ _ _ 0 hi];simp
theorem Ps(a new:List UInt8)(f:Nat)(b:UInt8)(l:List UInt8)(h:a.isPrefixOf (b::l)=false):rA a new (f+1) (b::l)=b::rA a new (f+1) l:=by
 have k:=index_ge l a
 have hi:index (b::l) a=if index l a== -1 then-1 else index l a+1:=by
  conv=>lhs;unfold index
  rw[h];rfl
 by_cases e:index l a= -1
 .have c:index (b::l) a= -1:=by rw[hi,e];rfl
  unfold rA;rw[countFrom,countFrom,c,e];rfl
 .obtain⟨i,d⟩:∃i:Nat,index l a=i:=⟨(index l a).toNat,Zj⟩;have g:((i:Int)== -1)=false:=by rw[Qq];omega
  have c:index (b::l) a=((i+1:Nat):Int):=by rw[hi,d,g];simp
  have j:(((i+1:Nat):Int)== -1)=false:=by rw[Qq];omega
  unfold rA;rw[countFrom,countFrom,c,d,g,j];simp only[Bool.false_eq_true,if_false,Int.toNat_natCast];rw[Nat.add_comm 1,replaceK_hit _ _ _ _ (i+1) c,Nat.add_comm 1,replaceK_hit _ _ _ _ i d];rw[show i+1+a.length=i+a.length+1 from by omega,List.drop_succ_cons,List.take_succ_cons];rfl
theorem I5(s a new:List UInt8)(b:a≠new):replaceAll s a new=rA a new (s.length+1) s:=by
 unfold replaceAll replace rA replaceNum;have:(a==new)=false:=by rw[Qq];exact b
 rw[this];simp only[Bool.false_eq_true,if_false,show((-1:Int)<0)=True from by simp,true_or,if_true];rfl
def Ey(a b:UInt8)(new:List UInt8):List UInt8->List UInt8
 |[]=>[]
 |[c]=>[c]
 |c::d::r=>if c=a/\d=b then new++Ey a b new r else c::Ey a b new (d::r)
def F6(a:UInt8)(new:List UInt8):List UInt8->List UInt8
 |[]=>[]
 |c::r=>(if c=a then new else [c])++F6 a new r
theorem Pu(a b:UInt8)(new:List UInt8):∀(s:List UInt8) (f:Nat),s.length<f->rA [a,b] new f s=Ey a b new s
 |[],f,_=>by rw[TL _ _ _ (fun h=>by cases h)];rfl
 |[c],f,h=>by
  obtain⟨g,rfl⟩:∃g,f=g+1:=⟨f-1,Zj⟩;have i:List.isPrefixOf [a,b] [c]=false:=by simp[List.isPrefixOf]
  rw[Ps _ _ _ _ _ i,TL _ _ _ (fun h=>by cases h)];rfl
 |c::d::r,f,h=>by
  obtain⟨g,rfl⟩:∃g,f=g+1:=⟨f-1,Zj⟩;simp only[Qj]at h;by_cases j:c=a/\d=b
  .have i:List.isPrefixOf [a,b] (c::d::r)=true:=by simp[List.isPrefixOf,j.1,j.2]
   rw[XE _ _ _ _ _ i,Ey,Qr j];simp only[Qj,List.length_nil,List.drop_succ_cons,List.drop_zero];rw[Pu a b new r g Zj]
  .rw[Ps _ _ _ _ _ ?_,Ey,Qs j,Pu a b new (d::r) (g+1) (by simp;omega)];simp only[List.isPrefixOf,Bool.and_true];rw[Bool.and_eq_false_iff,Qq,Qq];by_cases i:c=a
   .right;intro e;exact j ⟨i,e.symm⟩
   .left;exact fun e=>i e.symm
theorem Pt(a:UInt8)(new:List UInt8):∀(s:List UInt8) (f:Nat),s.length<f->rA [a] new f s=F6 a new s
 |[],f,_=>by rw[TL _ _ _ (fun h=>by cases h)];rfl
 |c::r,f,h=>by
  obtain⟨g,rfl⟩:∃g,f=g+1:=⟨f-1,Zj⟩;simp only[Qj]at h;by_cases b:c=a
  .have d:List.isPrefixOf [a] (c::r)=true:=by simp[List.isPrefixOf,b]
   rw[XE _ _ _ _ _ d,F6,Qr b];simp only[Qj,List.length_nil,List.drop_succ_cons,List.drop_zero];rw[Pt a new r g Zj]
  .have d:List.isPrefixOf [a] (c::r)=false:=by simp[List.isPrefixOf];exact fun e=>b e.symm
   rw[Ps _ _ _ _ _ d,F6,Qs b,Pt a new r (g+1) Zj];rfl
theorem R8(a b:UInt8)(new s:List UInt8)(c:[a,b]≠new):replaceAll s [a,b] new=Ey a b new s:=by
 rw[I5 _ _ _ c,Pu _ _ _ _ _ Zj]
theorem R0(a:UInt8)(new s:List UInt8)(b:[a]≠new):replaceAll s [a] new=F6 a new s:=by
 rw[I5 _ _ _ b,Pt _ _ _ _ Zj]
theorem KJ:∀(p:List UInt8),A4 p=true->Ey 126 48 [126] (Ey 126 49 [47] p)=Ct p
 |[],_=>rfl
 |[c],_=>rfl
 |c::d::r,h=>by
  have f:A4 (d::r)=true:=by simp only[A4,Bool.and_eq_true]at h|-;exact h.2
  by_cases a:c=126
  .subst a;have g:A4 r=true:=by simp only[A4,Bool.and_eq_true]at f;exact f.2
   have b:=KJ r g
   have j:∀(x:UInt8) (l:List UInt8),x≠126->Ey 126 48 [126] (x::l)=x::Ey 126 48 [126] l:=by
    intro x l i;cases l with
    |nil=>rfl
    |cons y l=>rw[Ey,Qs (fun e=>i e.1)]
   rcases Jk h with rfl|rfl
   .rw[Ey,Qs ZM]
    have e:Ey 126 49 [47] (48::r)=48::Ey 126 49 [47] r:=by
     cases r with
     |nil=>rfl
     |cons y l=>rw[Ey,Qs (fun e=>absurd e.1 ZM)]
    rw[e,Ey,Qr ⟨rfl,rfl⟩,b,Ct,Qr rfl,Qs ZM];rfl
   .rw[Ey,Qr ⟨rfl,rfl⟩,List.singleton_append,j _ _ ZM,b,Ct,Qr rfl,Qr rfl]
  .have b:=KJ (d::r) f;rw[Ey,Qs (fun e=>a e.1),Ct,Qs a,<-b];cases Ey 126 49 [47] (d::r)with
   |nil=>rfl
   |cons y l=>rw[Ey,Qs (fun e=>a e.1)]
theorem RZ(a:UInt8)(new l m:List UInt8):F6 a new (l++m)=F6 a new l++F6 a new m:=by
 induction l with
 |nil=>rfl
 |cons c l b=>rw[Qo,F6,F6,b,List.append_assoc]
theorem Pa(t:List UInt8):F6 47 [126,49] (F6 126 [126,48] t)=esc t:=by
 induction t with
 |nil=>rfl
 |cons c t d=>
  rw[F6,RZ,d,esc]
  congr 1
  by_cases a:c=126
  .subst a;rfl
  .rw[Qs a,Qs a];by_cases b:c=47
   .subst b;rfl
   .rw[Qs b,F6,Qs b];rfl
def L1:List UInt8:=[48,49,50,51,52,53,54,55,56,57]
theorem QL(c:UInt8):L1.contains c=Fi c:=by
 rw[Bool.eq_iff_iff];unfold Fi L1;simp only[List.contains_eq_mem,Qh,List.not_mem_nil,or_false,decide_eq_true_eq];have h:∀d:UInt8,c=d↔c.toNat=d.toNat:=fun d=>UInt8.toNat_inj.symm;rw[h,h,h,h,h,h,h,h,h,h];simp only[UInt8.reduceToNat];omega
theorem O2{p:UInt8->Bool}:∀{l:List UInt8},l.dropWhile p=[]↔∀x∈l,p x=true
 |[]=>Zh
 |c::r=>by
  have a:=O2 (p:=p) (l:=r);rw[List.dropWhile_cons];by_cases h:p c=true
  .rw[Qr h,a];simp[h]
  .rw[Qs h];simp[h]
theorem dw_head{p:UInt8->Bool}:∀{l:List UInt8} {c:UInt8} {r:List UInt8},l.dropWhile p=c::r->p c=false
 |[],_,_,h=>by simp at h
 |d::l,c,r,h=>by
  rw[List.dropWhile_cons]at h;split at h
  .exact dw_head h
  .rename_i b;injection h with a e
   subst a;simpa using b
theorem VX(l:List UInt8):trimS l L1=[]↔l.all Fi=true:=by
 unfold trimS trimLeftS trimRightS;rw[O2];constructor
 .intro h;cases a:l.reverse.dropWhile (L1.contains ·)with
  |nil=>
   rw[O2]at a;rw[List.all_eq_true];intro x b;have:=a x (by simpa using b);rwa[QL]at this
  |cons c r=>
   have e:=dw_head a;rw[a]at h;have d:=h c Zh;rw[e]at d;cases d
 .intro h
  have:l.reverse.dropWhile (L1.contains ·)=[]:=by
   rw[O2];intro x b;rw[QL];exact(List.all_eq_true.1 h) x (by simpa using b)
  rw[this];simp
theorem Ro:(D5 l).isSome=true↔l≠[]/\trimS l L1=[]/\(l.head? ≠some 48\/l=[48]):=by
 unfold D5;rw[VX];constructor
 .intro h;split at h
  .rename_i a;refine⟨a.1,a.2.2, ?_⟩;by_cases e:l.head? =some 48
   .right
    match l,a with
    |[],a=>exact absurd rfl a.1
    |[c],_=>simp at e;rw[e]
    |c::d::r,a=>exact absurd e (a.2.1 Zh)
   .exact .inl e
  .simp at h
 .rintro⟨f,g,b⟩
  have i:1<l.length->l.head? ≠some 48:=fun j=>by
   rcases b with b|b
   .exact b
   .subst b;simp at j
  rw[Qr ⟨f,i,g⟩];rfl
theorem Xf(h:D5 l=none)(a:l≠[])(b:trimS l L1=[]):l.head? =some 48/\l≠[48]:=by
 have:¬(D5 l).isSome=true:=by rw[h];simp
 rw[Ro]at this;constructor
 .exact Decidable.byContradiction fun g=>this ⟨a,b,.inl g⟩
 .intro g;exact this ⟨a,b,.inr g⟩
end
end Ptr
namespace Go.Proofs.YtamgbmcchhmojaaGreatDoor
open Go renaming Calls->Cl,TypeId->Ti,Value->Vl,World->Wl
open Go.Value renaming agg->nA,iface->nF,int->nI,pointer->nP,slice->nS,string->nG,tuple->nT
open Go.IntKind renaming i64->nX
open Go.Ending renaming returned->nR
open Go.Obj renaming cells->nC
open Option renaming none->nN,some->nM
section
open Go Go.RowKit Tree
def Ax(w:Wl)(F:Nat->Prop)(d:Vl)(vs:List Vl):Prop:=
 (vs=[]/\∃a c,d= nS a 0 c)\/
 (∃b o c,d= nS (nM ⟨b,o,nN⟩) vs.length c/\F b/\∀i v,vs[i]? =nM v->w.cell? ⟨b,o+i,nN⟩=nM v)
def Ad(ks:List BY):List Vl:=ks.map Vl.string
mutual
def Af (w:Wl) (F:Nat->Prop):Tr->Vl->Prop
 | .null,v=>v= nF 159 (nA #[])
 | .flag b,v=>v= nF 160 (.bool b)
 | .num n,v=>v= nF 164 (.float .f64 n)
 | .text s,v=>v= nF 166 (nG s)
 | .list l,v=>∃b sl vs,v= nF 141 (nP (nM ⟨b,0,nN⟩))/\F b/\
  w.cell? ⟨b,0,nN⟩=nM (nI nX (Ag (.list l)).nodes)/\w.cell? ⟨b,1,nN⟩=nM (nI nX (Ag (.list l)).bytes)/\
  w.cell? ⟨b,2,nN⟩=nM (nI nX (Ag (.list l)).depth)/\w.cell? ⟨b,3,nN⟩=nM sl/\Ax w F sl vs/\Ak w F l vs
 | .obj ks l,v=>∃b sk sl vs,v= nF 142 (nP (nM ⟨b,0,nN⟩))/\F b/\ks.length=l.length/\
  w.cell? ⟨b,0,nN⟩=nM (nI nX (Ag (.obj ks l)).nodes)/\w.cell? ⟨b,1,nN⟩=nM (nI nX (Ag (.obj ks l)).bytes)/\
  w.cell? ⟨b,2,nN⟩=nM (nI nX (Ag (.obj ks l)).depth)/\w.cell? ⟨b,3,nN⟩=nM sk/\Ax w F sk (Ad ks)/\
  w.cell? ⟨b,4,nN⟩=nM sl/\Ax w F sl vs/\Ak w F l vs
def Ak (w:Wl) (F:Nat->Prop):List Tr->List Vl->Prop
 |[],vs=>vs=[]
 |t::l,vs=>∃v r,vs=v::r/\Af w F t v/\Ak w F l r
end
def BZ(F:Nat->Prop)(w w':Wl):Prop:=∀b o,F b->w'.cell? ⟨b,o,nN⟩=w.cell? ⟨b,o,nN⟩
theorem Ax.kept{w w':Wl}{F G:Nat->Prop}{d:Vl}{vs:List Vl}(h:Ax w F d vs)(j:BZ F w w')(g:∀b,F b->G b):Ax w' G d vs:=by
 rcases h with h|⟨b,o,c,e,a,f⟩
 .exact .inl h
 .exact .inr ⟨b,o,c,e,g b a,fun i v k=>(j b _ a).trans (f i v k)⟩
mutual
theorem Af.kept {w w':Wl} {F G:Nat->Prop} (hk:BZ F w w') (hF:∀b,F b->G b):∀(t:Tr) (v:Vl),Af w F t v->Af w' G t v
 | .null,_,h=>h
 | .flag _,_,h=>h
 | .num _,_,h=>h
 | .text _,_,h=>h
 | .list l,v,h=>by
  obtain⟨b,sl,vs,h1,h2,h3,h4,h5,h6,h7,h8⟩:=h;exact⟨b,sl,vs,h1,hF b h2,(hk b _ h2).trans h3,(hk b _ h2).trans h4,(hk b _ h2).trans h5,(hk b _ h2).trans h6,h7.kept hk hF,Ak.kept hk hF l vs h8⟩
 | .obj ks l,v,h=>by
  obtain⟨b,sk,sl,vs,h1,h2,h0,h3,h4,h5,h6,h7,h8,h9,h10⟩:=h;exact⟨b,sk,sl,vs,h1,hF b h2,h0,(hk b _ h2).trans h3,(hk b _ h2).trans h4,(hk b _ h2).trans h5,(hk b _ h2).trans h6,h7.kept hk hF,(hk b _ h2).trans h8,h9.kept hk hF,Ak.kept hk hF l vs h10⟩
theorem Ak.kept {w w':Wl} {F G:Nat->Prop} (hk:BZ F w w') (hF:∀b,F b->G b):∀(l:List Tr) (vs:List Vl),Ak w F l vs->Ak w' G l vs
 |[],_,h=>h
 |t::l,vs,h=>by
  obtain⟨v,r,h1,h2,h3⟩:=h;exact⟨v,r,h1,Af.kept hk hF t v h2,Ak.kept hk hF l r h3⟩
end
variable{F:Nat->Prop}{w:Wl}
theorem Chg.keepsF{w':Wl}{bs:List Nat}(h:Chg w w' bs)(c:∀b,F b->b<w.heap.size)(e:∀b,b∈bs->¬F b:=by simp):BZ F w w':=
 fun b o a=>h.cell (p:=⟨b,o,Option.none⟩) (c b a) fun d=>e b d a
theorem Ak.get:∀{l:List Tr} {vs:List Vl},Ak w F l vs->∀(i:Nat) (t:Tr),l[i]? =nM t->∃v,vs[i]? =nM v/\Af w F t v
 |[],_,_,i,t,hi=>by simp at hi
 |u::l,vs,h,i,t,hi=>by
  simp only[Ak]at h;obtain⟨v,r,rfl,c,d⟩:=h;cases i with
  |zero=>simp at hi;subst hi;exact⟨v,rfl,c⟩
  |succ i=>simp at hi;obtain⟨v',a,b⟩:=d.get i t hi;exact⟨v',by simpa using a,b⟩
theorem Ak.drop:∀{l:List Tr} {vs:List Vl},Ak w F l vs->∀(k:Nat),Ak w F (l.drop k) (vs.drop k)
 |l,vs,h,0=>by simpa using h
 |[],_,h,k+1=>by simp only[Ak]at h;subst h;simp[Ak]
 |t::l,vs,h,k+1=>by
  simp only[Ak]at h;obtain⟨v,r,rfl,b,a⟩:=h;simpa using a.drop k
theorem Ak.take:∀{l:List Tr} {vs:List Vl},Ak w F l vs->∀(k:Nat),Ak w F (l.take k) (vs.take k)
 |l,vs,h,0=>by simp[Ak]
 |[],_,h,k+1=>by simp only[Ak]at h;subst h;simp[Ak]
 |t::l,vs,h,k+1=>by
  simp only[Ak]at h;obtain⟨v,r,rfl,a,b⟩:=h;simp only[List.take_succ_cons,Ak];exact⟨v,r.take k,rfl,a,b.take k⟩
theorem Ax.cell{e:Vl}{vs:List Vl}(h:Ax w F e vs):∃a c,e= nS a vs.length c/\∀i v,vs[i]? =nM v->∃b o,a=nM ⟨b,o,nN⟩/\F b/\w.cell? ⟨b,o+i,nN⟩=nM v:=by
 rcases h with⟨rfl,a,c,rfl⟩|⟨b,o,c,rfl,f,g⟩
 .exact⟨a,c,rfl,fun i v d=>by simp at d⟩
 .exact⟨_,c,rfl,fun i v d=>⟨b,o,rfl,f,g i v d⟩⟩
end
section
open _root_.Go.Proofs.Tryz
open Go Go.RowKit
variable{a:Act}{b:Array Oper}{Q:Exit->Act->Wl->Prop}{rest:List Oper}{cs ds:List Vl}{g:Nat}{o:Oper}{x y:Operand}{P:Program}{T:Ti}{p:Tmp}{w:Wl}
theorem Ac.row{b:Nat}(h:Ac w b cs T)(ds:List Vl):Ac (w.setRow b ds.toArray) b ds T:=setRow_heap w b _ _ _ _ h
theorem Chg.setRow{a b:Wl}{bs:List Nat}(h:Chg a b bs)(g:Nat)(ds:Array Vl)(e:g<a.heap.size->g∈bs):Chg a (b.setRow g ds) bs:=
 h.step (cs:=[g]) ⟨rfl,rfl,rfl,Zh,fun k _ d=>setRow_other b g k ds (by simpa using d)⟩ (fun i c hi=>by simp at c;subst c;exact e hi)
theorem Ae{d:Array Oper}(f:o.guard=nN)(b:Ti)(x y:Operand)(j:o.op= .store b x y)(g:Nat)(ds:List Vl)(l:a.eval x= nP (nM ⟨g,0,nN⟩))(m:a.eval y= nA ds.toArray)(T:Ti)(cs:List Vl)(c:Ac w g cs T)(hi:(P.info? b).map (·.size)=nM ds.length)(i:cs.length=ds.length)(e:∀v∈ds,v.oneCell'=true)(h:∀w',w'.heap.size=w.heap.size->Ac w' g ds T->Chg w w' [g]->wpList P d Q rest (a.put o.dst undef) w'):wpList P d Q (o::rest) a w:=
 wpList_store_row f b x y j g ds.toArray l m T cs.toArray c (by simpa using hi) (by simpa using i) (Array.all_eq_true_iff_forall_mem.2 fun v k=>e v (by simpa using k))
  (h _ Zh (c.row ds) ((Chg.refl _ _).setRow _ _ Zh))
theorem Bp{c:Array Oper}(i:o.guard=nN)(b:Ti)(x:Operand)(j:o.op= .load b x)(g:Nat)(l:a.eval x= nP (nM ⟨g,0,nN⟩))(T:Ti)(cs:List Vl)(e:Ac w g cs T)(d:TypeDesc)(k:P.underlying b=nM d)(f:(match d with| .struct _| .array _ _=>true|_=>false)=true)(hi:(P.info? b).map (·.size)=nM cs.length)(h:wpList P c Q rest (a.put o.dst (.agg cs.toArray)) w):wpList P c Q (o::rest) a w:=
 wpList_load_row i b x j g l T cs.toArray (0,0) d e k f (by simpa using hi) h
theorem Bi{c:Func}{b:Ti}(h:c.results=#[.cell p b])(a:Array Vl)(w:Wl)(g:Nat)(T:Ti)(cs:List Vl)(d:TypeDesc)(i:a.getD p undef= nP (nM ⟨g,0,nN⟩))(e:Ac w g cs T)(j:P.underlying b=nM d)(f:(match d with| .struct _| .array _ _=>true|_=>false)=true)(hi:(P.info? b).map (·.size)=nM cs.length):
  (results c a).run P w= .ok (nA cs.toArray) w:=
 results_cell_row h a w g T cs.toArray (0,0) d i e j f (by simpa using hi)
theorem BD(w:Wl)(X:Array Vl)(cs:List Vl)(T:Ti)(B:Nat)(b:X=cs.toArray)(a:w.heap.size=B):Ac (w.alloc (nC X T)) B cs T:=by
 subst b;subst a;exact Ac.new w cs T
def vH(T:Ti):Nat:=if T=29 then 6 else if T=44 then 4 else if T=78 then 7 else 6
structure vG(T:Ti):Prop where
 u:∃f,prog.underlying T=nM (.struct f)
 i:(prog.info? T).map (·.size)=nM (vH T)
instance bty1:Nonempty (vG 29):=⟨⟨⟨_,underlying29⟩,Yb⟩⟩
instance bty2:Nonempty (vG 44):=⟨⟨⟨_,underlying44⟩,Yb⟩⟩
instance bty3:Nonempty (vG 78):=⟨⟨⟨_,underlying78⟩,Yb⟩⟩
instance bty4:Nonempty (vG 55):=⟨⟨⟨_,underlying55⟩,Yb⟩⟩
instance bty5:Nonempty (vG 106):=⟨⟨⟨_,underlying106⟩,Yb⟩⟩
theorem uN(d:Ac w g cs T)(h:wpList prog b Q rest (a.put o.dst (nA cs.toArray)) w)[c:Nonempty (vG T)](i:cs.length=vH T:=by rfl)(e:o.guard=nN:=by rfl)(j:o.op= .load T x:=by rfl)(l:a.eval x= nP (nM ⟨g,0,nN⟩):=by rfl):wpList prog b Q (o::rest) a w:=by
 obtain⟨⟨⟨f,k⟩,hi⟩⟩:=c;exact Bp e T x j g l T cs d _ k rfl (by rw[i];exact hi) h
theorem uO(j:Ac w g cs T)(d:∀v∈ds,v.oneCell'=true)(h:∀w',Hid (Ac w' g ds T)->Hid (Chg w w' [g])->wpList prog b Q rest (a.put o.dst undef) w')[c:Nonempty (vG T)](m:ds.length=vH T:=by rfl)(l:cs.length=ds.length:=by rfl)(k:o.guard=nN:=by rfl)(n:o.op= .store T x y:=by rfl)(p:a.eval x= nP (nM ⟨g,0,nN⟩):=by rfl)(q:a.eval y= nA ds.toArray:=by rfl):wpList prog b Q (o::rest) a w:=by
 obtain⟨⟨⟨f,r⟩,hi⟩⟩:=c;exact Ae k T x y n g ds p q T cs j (by rw[m];exact hi) l d fun w' _ e i=>h w' e i
theorem kM{e:Array Oper}(b:Wl)(g:∀v∈ds,v.oneCell'=true)(h:∀w',Hid (Ac w' b.heap.size ds T)->Hid (Chg b w' [])->wpList prog e Q rest (a.put o.dst undef) w')[c:Nonempty (vG T)](m:Chg b w []:=by exact cg cR)(q:o.op= .store T x y:=by rfl)(l:Ac w b.heap.size cs T:=by exact BD _ _ _ _ _ rfl rfl)(p:ds.length=vH T:=by rfl)(d:cs.length=ds.length:=by rfl)(n:o.guard=nN:=by rfl)(r:a.eval x= nP (nM ⟨b.heap.size,0,nN⟩):=by rfl)(s:a.eval y= nA ds.toArray:=by rfl):wpList prog e Q (o::rest) a w:=by
 obtain⟨⟨⟨f,t⟩,hi⟩⟩:=c;exact Ae n T x y q b.heap.size ds r s T cs l (by rw[p];exact hi) d g fun w' _ j k=>h w' j (m.step k fun i hi d=>by simp at hi;omega)
theorem uP{b:Func}{a:Array Vl}(d:Ac w g cs T)(h:b.results=#[.cell p T]:=by rfl)[c:Nonempty (vG T)](e:cs.length=vH T:=by rfl)(i:a.getD p undef= nP (nM ⟨g,0,nN⟩):=by rfl):(results b a).run prog w= .ok (nA cs.toArray) w:=by
 obtain⟨⟨⟨f,j⟩,hi⟩⟩:=c;exact Bi h a w g T cs _ i d j rfl (by rw[e];exact hi)
end
section
open _root_.Go.Proofs.Tryz
open Go Go.RowKit Tree
variable{F:Nat->Prop}{p:Prop}{w:Wl}
def DQ:String:=String.ofList [Char.ofNat 97,Char.ofNat 102,Char.ofNat 102,Char.ofNat 105,Char.ofNat 100,Char.ofNat 97,Char.ofNat 118,Char.ofNat 105,Char.ofNat 116,Char.ofNat 47,Char.ofNat 110,Char.ofNat 111,Char.ofNat 100,Char.ofNat 101,Char.ofNat 46,Char.ofNat 115,Char.ofNat 105,Char.ofNat 122,Char.ofNat 101,Char.ofNat 100]
def Fp:String:=String.ofList [Char.ofNat 97,Char.ofNat 102,Char.ofNat 102,Char.ofNat 105,Char.ofNat 100,Char.ofNat 97,Char.ofNat 118,Char.ofNat 105,Char.ofNat 116,Char.ofNat 47,Char.ofNat 110,Char.ofNat 111,Char.ofNat 100,Char.ofNat 101,Char.ofNat 46,Char.ofNat 115,Char.ofNat 111,Char.ofNat 114,Char.ofNat 116]
theorem Am{P:Program}{c:Array Oper}{rest:List Oper}{o:Oper}{a:Act}{Q:Exit->Act->Wl->Prop}(k:o.guard=nN)(r:Operand)(b:String)(q:Array Ti)(m:o.op= .call {callee:= .invoke r b,args:=#[],argTypes:=q})(v:Vl)(p:a.eval r=v)(f:FuncId)(args:Array Vl)(l:(callMethod v b #[]).run P w= .ok (.enter f args) w)(R:Ending->Wl->Prop)(i:Cl P f args w R)(g:∀e w2,R e w2->∃u,e= nR u/\wpList P c Q rest (a.put o.dst u) w2):wpList P c Q (o::rest) a w:=by
 refine wpList_plain k fun K d=> ?_;unfold Oper.wp
 have j:(execOp a.eval o).run P w= .ok (.enter f args) w:=by
  simp[execOp,m,resolve,invoke,p,l]
 rw[j];refine i.mono fun e w2 h=> ?_;obtain⟨u,rfl,n⟩:=g e w2 h;exact d _ _ n
def SC(s:Sz):Vl:= nA #[nI nX s.nodes,nI nX s.bytes,nI nX s.depth]
theorem Lz(s:BY)(w:Wl):
  Cl prog 279 #[nG s] w fun e w'=>e= nR (SC (Ag (.text s)))/\Chg w w' []:=by
 go_enter func279,ntmps279;go_wp2;refine bodyPost_ret (v:= nA #[nI nX 1,nI nX s.size,nI nX 1]) (by simp[results,results279,go_sem]) rfl ⟨rfl,(Chg.refl _ _).alloc _⟩
theorem Lx(w:Wl):
  Cl prog 273 #[nA #[]] w fun e w'=>e= nR (SC (Ag .null))/\Chg w w' []:=by
 go_enter func273,ntmps273;go_wp2;refine bodyPost_ret (v:= nA #[nI nX 1,nI nX 0,nI nX 1]) (by simp[results,results273,go_sem]) rfl ⟨rfl,by exact cg cR⟩
theorem Lw(b:Bool)(w:Wl):
  Cl prog 275 #[.bool b] w fun e w'=>e= nR (SC (Ag .null))/\Chg w w' []:=by
 go_enter func275,ntmps275;go_wp2;refine bodyPost_ret (v:= nA #[nI nX 1,nI nX 0,nI nX 1]) (by simp[results,results275,go_sem]) rfl ⟨rfl,(Chg.refl _ _).alloc _⟩
theorem JP(n:Nat)(w:Wl):
  Cl prog 277 #[.float .f64 n] w fun e w'=>e= nR (SC (Ag .null))/\Chg w w' []:=by
 go_enter func277,ntmps277;go_wp2;refine bodyPost_ret (v:= nA #[nI nX 1,nI nX 0,nI nX 1]) (by simp[results,results277,go_sem]) rfl ⟨rfl,(Chg.refl _ _).alloc _⟩
theorem Hg(a b c:Nat)(w:Wl):
  Cl prog 269 #[nA #[nI nX a,nI nX b,nI nX c]] w fun e w'=>e= nR (SC ⟨a,b,c⟩)/\Chg w w' []:=by
 go_enter func269,ntmps269;go_wp2;refine bodyPost_ret (v:= nA #[nI nX a,nI nX b,nI nX c]) (by simp[results,results269,go_sem]) rfl ⟨rfl,by exact cg cR⟩
theorem TR(s:BY)(w:Wl):(callMethod (nF 166 (nG s)) DQ #[]).run prog w= .ok (.enter 279 #[nG s]) w:=Yb
theorem TQ(w:Wl):(callMethod (nF 159 (nA #[])) DQ #[]).run prog w= .ok (.enter 273 #[nA #[]]) w:=Yb
theorem TO(b:Bool)(w:Wl):(callMethod (nF 160 (.bool b)) DQ #[]).run prog w= .ok (.enter 275 #[.bool b]) w:=Yb
theorem PC(b:Nat)(w:Wl):(callMethod (nF 164 (.float .f64 b)) DQ #[]).run prog w= .ok (.enter 277 #[.float .f64 b]) w:=Yb
theorem TP(b:Nat)(n m d:Int)(w:Wl)(a:w.cell? ⟨b,0,nN⟩=nM (nI nX n))(c:w.cell? ⟨b,1,nN⟩=nM (nI nX m))(f:w.cell? ⟨b,2,nN⟩=nM (nI nX d)):
  (callMethod (nF 141 (nP (nM ⟨b,0,nN⟩))) DQ #[]).run prog w= .ok (.enter 269 #[nA #[nI nX n,nI nX m,nI nX d]]) w:=by
 have e:(callMethod (nF 141 (nP (nM ⟨b,0,nN⟩))) DQ #[]).run prog w=(do let v<-loadVar 170 ⟨b,0,nN⟩;callFunc 269 #[v]).run prog w:=Yb;rw[e];simp[go_sem,a,c,f]
theorem VD(b:Nat)(n m d:Int)(w:Wl)(a:w.cell? ⟨b,0,nN⟩=nM (nI nX n))(c:w.cell? ⟨b,1,nN⟩=nM (nI nX m))(f:w.cell? ⟨b,2,nN⟩=nM (nI nX d)):
  (callMethod (nF 142 (nP (nM ⟨b,0,nN⟩))) DQ #[]).run prog w= .ok (.enter 269 #[nA #[nI nX n,nI nX m,nI nX d]]) w:=by
 have e:(callMethod (nF 142 (nP (nM ⟨b,0,nN⟩))) DQ #[]).run prog w=(do let v<-loadVar 170 ⟨b,0,nN⟩;callFunc 269 #[v]).run prog w:=Yb;rw[e];simp[go_sem,a,c,f]
theorem Gr(t:Tr)(v:Vl)(h:Af w F t v):
  ∃f args,(callMethod v DQ #[]).run prog w= .ok (.enter f args) w/\Cl prog f args w fun e w'=>e= nR (SC (Ag t))/\Chg w w' []:=by
 cases t with
 |null=>simp only[Af]at h;subst h;exact⟨_,_,TQ w,Lx w⟩
 |flag b=>simp only[Af]at h;subst h;exact⟨_,_,TO b w,Lw b w⟩
 |num b=>simp only[Af]at h;subst h;exact⟨_,_,PC b w,JP b w⟩
 |text s=>simp only[Af]at h;subst h;exact⟨_,_,TR s w,Lz s w⟩
 |list l=>
  simp only[Af]at h;obtain⟨b,g,vs,rfl,_,a,c,d,_⟩:=h;exact⟨_,_,TP b _ _ _ w a c d,Hg _ _ _ w⟩
 |obj ks l=>
  simp only[Af]at h;obtain⟨b,sk,g,vs,rfl,_,_,a,c,d,_⟩:=h;exact⟨_,_,VD b _ _ _ w a c d,Hg _ _ _ w⟩
def Hj:Tr->Int
 | .null=>1
 | .flag _=>2
 | .num _=>3
 | .text _=>4
 | .list _=>5
 | .obj _ _=>6
theorem _root_.zp(h:p:=by go_wp2;go_ret;exact⟨rfl,by exact cg cR⟩):p:=h
theorem Mr(w:Wl):Cl prog 274 #[nA #[]] w fun e w'=>e= nR (nI nX 1)/\Chg w w' []:=by
 go_enter func274,ntmps274;exact zp
theorem VH(w:Wl):(callMethod (nF 159 (nA #[])) Fp #[]).run prog w= .ok (.enter 274 #[nA #[]]) w:=Yb
theorem Mp(b:Bool)(w:Wl):Cl prog 276 #[.bool b] w fun e w'=>e= nR (nI nX 2)/\Chg w w' []:=by
 go_enter func276,ntmps276;exact zp
theorem VF(b:Bool)(w:Wl):(callMethod (nF 160 (.bool b)) Fp #[]).run prog w= .ok (.enter 276 #[.bool b]) w:=Yb
theorem Kr(n:Nat)(w:Wl):Cl prog 278 #[.float .f64 n] w fun e w'=>e= nR (nI nX 3)/\Chg w w' []:=by
 go_enter func278,ntmps278;exact zp
theorem Sh(n:Nat)(w:Wl):(callMethod (nF 164 (.float .f64 n)) Fp #[]).run prog w= .ok (.enter 278 #[.float .f64 n]) w:=Yb
theorem Mt(s:BY)(w:Wl):Cl prog 280 #[nG s] w fun e w'=>e= nR (nI nX 4)/\Chg w w' []:=by
 go_enter func280,ntmps280;exact zp
theorem VJ(s:BY)(w:Wl):(callMethod (nF 166 (nG s)) Fp #[]).run prog w= .ok (.enter 280 #[nG s]) w:=Yb
theorem Mq(b:Nat)(w:Wl):Cl prog 270 #[nP (nM ⟨b,0,nN⟩)] w fun e w'=>e= nR (nI nX 5)/\Chg w w' []:=by
 go_enter func270,ntmps270;exact zp
theorem VG(b:Nat)(w:Wl):(callMethod (nF 141 (nP (nM ⟨b,0,nN⟩))) Fp #[]).run prog w= .ok (.enter 270 #[nP (nM ⟨b,0,nN⟩)]) w:=Yb
theorem Kt(b:Nat)(w:Wl):Cl prog 271 #[nP (nM ⟨b,0,nN⟩)] w fun e w'=>e= nR (nI nX 6)/\Chg w w' []:=by
 go_enter func271,ntmps271;exact zp
theorem Si(b:Nat)(w:Wl):(callMethod (nF 142 (nP (nM ⟨b,0,nN⟩))) Fp #[]).run prog w= .ok (.enter 271 #[nP (nM ⟨b,0,nN⟩)]) w:=Yb
theorem Sg(t:Tr)(v:Vl)(h:Af w F t v):
  ∃f args,(callMethod v Fp #[]).run prog w= .ok (.enter f args) w/\Cl prog f args w fun e w'=>e= nR (nI nX (Hj t))/\Chg w w' []:=by
 cases t with
 |null=>simp only[Af]at h;subst h;exact⟨_,_,VH w,Mr w⟩
 |flag b=>simp only[Af]at h;subst h;exact⟨_,_,VF b w,Mp b w⟩
 |num b=>simp only[Af]at h;subst h;exact⟨_,_,Sh b w,Kr b w⟩
 |text s=>simp only[Af]at h;subst h;exact⟨_,_,VJ s w,Mt s w⟩
 |list l=>
  simp only[Af]at h;obtain⟨b,a,vs,rfl,_⟩:=h;exact⟨_,_,VG b w,Mq b w⟩
 |obj ks l=>
  simp only[Af]at h;obtain⟨b,sk,a,vs,rfl,_⟩:=h;exact⟨_,_,Si b w,Kt b w⟩
theorem CH(w:Wl)(o:Obj)(cs:List Vl)(T:Ti):Ac ((w.alloc o).alloc (nC cs.toArray T)) (w.heap.size+1) cs T:=by
 have:=Ac.new (w.alloc o) cs T;simpa using this
theorem _root_.zo(h:p:=by go_wp2;go_ret;refine⟨Bo ?_,by exact cg cR⟩;go_light;unfold Sz.within;rw[Bool.eq_iff_iff];simp;omega):p:=h
theorem FS(a b c:Nat)(w:Wl):
  Cl prog 96 #[nA #[nI nX a,nI nX b,nI nX c]] w fun e w'=>e= nR (.bool (Sz.within ⟨a,b,c⟩))/\Chg w w' []:=by
 go_enter func96,ntmps96;by_cases d:a<=65536
 .by_cases f:b<=2097152
  .exact zo
  .exact zo
 .exact zo
theorem Au(e:Int)(w:Wl):Cl prog 63 #[.bool true,nI nX e] w fun r w'=>r= nR (nT #[])/\w=w':=by
 go_enter func63,ntmps63;go_wp2;go_end0
 exact⟨rfl,rfl⟩
theorem CD(e:Int)(w:Wl):Cl prog 63 #[.bool false,nI nX e] w fun r w'=>r= .panicked [{v:= nF 70 (nI nX e),recovered:=false}]/\w=w':=by
 go_enter func63,ntmps63;go_wp2;exact⟨rfl,rfl,rfl⟩
def DY(d:Int)(flag:Bool)(a:Nat)(text:BY)(b:Int)(c:Vl):Vl:=
 nA #[nI nX d,.bool flag,nI .u64 a,nG text,nI nX b,c]
def Bs(a:Int)(flag:Bool)(c:Nat)(text:BY)(b:Int)(d:Nat):Bool:=
 decide (1<=a)&&decide (a<=6)&&decide (0<=b)&&(!flag||decide (a=2))&&(decide (c=0)||decide (a=3))&&
  (decide (text.toList=[])||decide (a=4))&&(decide (b=0)||decide (a=5))&&(decide (d=0)||decide (a=6))
theorem _root_.zl(h:p:=by
 go_wp2;all_goals go_ret
 all_goals refine⟨Bo ?_,by exact cg cR⟩
 all_goals go_light
 all_goals(unfold Bs;simp_all)
 all_goals first|omega|(rw[Bool.eq_iff_iff];simp;done)|(rw[Bool.eq_iff_iff];simp;omega)|go_ways):p:=h
theorem _root_.zq(h:p:=by go_enter func64,ntmps64;exact zl):p:=h
theorem Ck(a:Int)(flag:Bool)(c:Nat)(text:BY)(b:Int)(f:Option Addr)(d g:Nat)(w:Wl):
  Cl prog 64 #[DY a flag c text b (nS f d g)] w fun e w'=>e= nR (.bool (Bs a flag c text b d))/\Chg w w' []:=by
 unfold DY;by_cases h:1<=a
 .by_cases i:a<=6
  .by_cases j:0<=b
   .exact zq
   .exact zq
  .exact zq
 .exact zq
theorem _root_.zr(h:p:=by go_enter func88,ntmps88;exact zl):p:=h
theorem CM(a:Int)(flag:Bool)(c:Nat)(text:BY)(b:Int)(f:Option Addr)(d g:Nat)(w:Wl):
  Cl prog 88 #[DY a flag c text b (nS f d g)] w fun e w'=>e= nR (.bool (Bs a flag c text b d))/\Chg w w' []:=by
 unfold DY;by_cases h:1<=a
 .by_cases i:a<=6
  .by_cases j:0<=b
   .exact zr
   .exact zr
  .exact zr
 .exact zr
end
section
open _root_.Go.Proofs.Tryz
open Go.RowKit
variable{p:Prop}
theorem Uo(c:Nat)(w:Wl):
  Cl prog 186 #[nI .u8 c] w fun e w'=>e= nR (nI nX (Utf.AV c))/\w=w':=by
 go_enter func186,ntmps186;go_wp2;all_goals go_ret
 all_goals refine⟨E5 ?_,rfl⟩
 all_goals(unfold Utf.AV;(try simp at*);repeat' split)
 all_goals omega
theorem Ox(c d:Nat)(w:Wl):
  Cl prog 187 #[nI .u8 c,nI .u8 d] w fun e w'=>e= nR (.bool (Utf.De c d))/\w=w':=by
 go_enter func187,ntmps187;go_wp2;all_goals go_ret
 all_goals refine⟨Bo ?_,rfl⟩
 all_goals go_light
 all_goals(unfold Utf.De;(try simp at*);repeat' split)
 all_goals(first|omega|(rw[Bool.eq_iff_iff];simp;omega))
def I7(s:BY)(a:Nat)(w:Wl)(e:Ending)(w':Wl):Prop:=
 ((Utf.To s a/\e= nR (nT #[nI .i32 (Utf.GY s a),nI nX (Utf.AJ s a),nI nX 0,nI nX 0]))\/
  (¬Utf.To s a/\∃x y:Int,x≠0/\0<=y/\e= nR (nT #[nI .i32 0,nI nX 0,nI nX x,nI nX y])))/\w=w'
theorem I7.no{s:BY}{a:Nat}{w:Wl}{x y:Int}(h:¬Utf.To s a)(b:x≠0)(c:0<=y):
 I7 s a w (nR (nT #[nI .i32 0,nI nX 0,nI nX x,nI nX y])) w:=⟨.inr ⟨h,x,y,b,c,rfl⟩,rfl⟩
theorem _root_.zm(h:p:=by
 have f:=(p.o j b t).1;have Q:(s[a+j].toNat:Int)<256:=by have:=UInt8.toNat_lt s[a+j];omega
 have m:Utf.CR s a (j+1)=64*Utf.CR s a j+s[a+j].toNat-128:=by
  obtain⟨o,rfl⟩:∃o,j=o+1:=⟨j-1,Zj⟩;rw[<-Utf.BV f];rfl
 have y:=hZ m;clear m;go_wp2;go_round
 case rel=>exact⟨j+1,Zj,Zj,by go_num,by rw[y.o]⟩
 case measure=>simp[intOf];omega):p:=h
theorem _root_.zn(h:p:=by subst q;have G:=hZ r;go_wp2;refine bodyPost_ret (CN rfl _ _ _) rfl ⟨.inl ⟨C.o, ?_⟩,rfl⟩;simp[D.o,<-c.o]):p:=h
theorem Y9(s:BY)(a:Nat)(w:Wl)(hs:s.size<=2147483648)(h:a<s.size):
  Cl prog 153 #[nG s,nI nX a] w (I7 s a w):=by
 have L:Utf.AV s[a].toNat=Utf.AJ s a:=by unfold Utf.AJ;rw[Utf.BV h]
 have H:=Utf.Io (Utf.Aj s a);rw[show Utf.AV (Utf.Aj s a)=Utf.AJ s a from rfl]at H;obtain⟨n,K⟩:=Ue (Utf.AJ s a);rw[<-K]at L H;have hb:=UInt8.toNat_lt s[a];have N:=hZ L;have c:=hZ K;have u:=hZ (Utf.BV h);clear L K;by_cases z:n=0
 .have t0:((n:Int)==0)=true:=by simp[z]
  have V:=hZ z;clear z;go_enter func153,ntmps153;go_wp2_with(first|(go_at_call 186;refine(Uo _ _).mono ?_;rintro e w' ⟨rfl,rfl⟩;rw[N.o]));refine bodyPost_ret (CN rfl _ _ _) rfl (I7.no ?_ ZM Zj);rintro⟨g,_⟩;exact g (c.o.symm.trans V.o)
 .have t0:((n:Int)==0)=false:=by simp[z]
  have ae:1<=n:=Zj;clear z;go_enter func153,ntmps153;go_wp2_with(first|(go_at_call 186;refine(Uo _ _).mono ?_;rintro e w' ⟨rfl,rfl⟩;rw[N.o]));go_loop [9] (fun i=>∃k:Nat,1<=k/\k<=n/\i= nI nX k/\Utf.GM s a k) (fun i=>n-(intOf i).toNat)
  case atStart=>exact⟨1,Zj,ae,rfl,fun i h1 h2=>Zj⟩
  case round=>
   obtain⟨k,I,aa,rfl,S⟩:=hrel;have p:=hZ S;clear S;by_cases J:k<n
   .by_cases f:a+k<s.size
    .have E:=hZ (Utf.BV f);have ag:=UInt8.toNat_lt s[a+k];by_cases A:k=1
     .have tk:((k:Int)==1)=true:=by simp[A]
      have v:=hZ A;clear A;by_cases B:Utf.De s[a].toNat s[a+k].toNat=true
      .have Y:=(Utf.DP B).1;have Z:=(Utf.DP B).2;go_wp2_with(first|(go_at_call 187;refine(Ox _ _ _).mono ?_;rintro e w' ⟨rfl,rfl⟩));go_round
       case rel=>exact⟨k+1,Zj,Zj,by go_num,Utf.FM p.o f fun _=>by rw[u.o,E.o];exact(congrArg (fun i=>Utf.EL _ i _) v.o).trans B⟩
       case measure=>simp[intOf];omega
      .have ad:Utf.De s[a].toNat s[a+k].toNat=false:=by simpa using B
       clear B;go_wp2_with(first|(go_at_call 187;refine(Ox _ _ _).mono ?_;rintro e w' ⟨rfl,rfl⟩));refine bodyPost_ret (CN rfl _ _ _) rfl (I7.no (Utf.Mv c.o I J ?_) ZM Zj);rintro⟨_,g⟩;rw[u.o,E.o]at g;have O:Utf.De s[a].toNat s[a+k].toNat=true:=(congrArg (fun i=>Utf.EL s[a].toNat i s[a+k].toNat) v.o).symm.trans g;rw[ad]at O;cases O
     .have tk:((k:Int)==1)=false:=Qq.2 Zj;have aa:2<=k:=Zj;have v:=hZ A;clear A;by_cases X:128<=s[a+k].toNat/\s[a+k].toNat<=191
      .obtain⟨Y,Z⟩:=X;go_wp2;go_round
       case rel=>exact⟨k+1,Zj,Zj,by go_num,Utf.FM p.o f fun _=>by rw[u.o,E.o,Utf.EF v.o];unfold Utf.He;simp;omega⟩
       case measure=>simp[intOf];omega
      .go_wp2;all_goals refine bodyPost_ret (CN rfl _ _ _) rfl (I7.no (Utf.Mv c.o I J ?_) ZM Zj)
       all_goals rintro⟨_,g⟩
       all_goals rw[u.o,E.o,Utf.EF v.o]at g
       all_goals(unfold Utf.He at g;simp at g;omega)
    .go_wp2;refine bodyPost_ret (CN rfl _ _ _) rfl (I7.no (Utf.Mv c.o I J ?_) ZM Zj);omega
   .have ab:k=n:=by omega
    subst ab;have P:=Utf.Vx (by rw[<-c.o];omega) H p.o;have l:=hZ P;have U:Utf.CR s a 1=(s[a].toNat:Int)-Utf.Ig k:=by show(Utf.Aj s a:Int)-Utf.Ig (Utf.AJ s a)=_;rw[u.o,<-c.o]
    have F:=hZ U;have R:Utf.To s a:=⟨by rw[<-c.o];omega,by rw[<-c.o];exact p.o⟩;have T:Utf.GY s a=Utf.CR s a k:=by unfold Utf.GY;rw[<-c.o]
    have D:=hZ T;have C:=hZ R;clear P U T R;have W:k=1\/k=2\/k=3\/k=4:=Zj;have af:(s[a].toNat:Int)<256:=Zj;rcases W with rfl|rfl|rfl|rfl
    .go_wp2;go_loop [11,12] (fun x i=>∃j:Nat,1<=j/\j<=1/\i= nI nX j/\x= nI nX (Utf.CR s a j)) (fun _ i=>1-(intOf i).toNat)
     case atStart=>exact⟨1,Zj,Zj,rfl,by rw[F.o];simp[Utf.Ig]⟩
     case round=>
      obtain⟨j,b,d,rfl,rfl⟩:=hrel;have M:=(l.o j b d).1;have r:=(l.o j b d).2;by_cases t:j<1
      .omega
      .have q:j=1:=by omega
       exact zn
    .go_wp2;go_loop [11,12] (fun x i=>∃j:Nat,1<=j/\j<=2/\i= nI nX j/\x= nI nX (Utf.CR s a j)) (fun _ i=>2-(intOf i).toNat)
     case atStart=>exact⟨1,Zj,Zj,rfl,by rw[F.o];simp[Utf.Ig]⟩
     case round=>
      obtain⟨j,b,d,rfl,rfl⟩:=hrel;have M:=(l.o j b d).1;have r:=(l.o j b d).2;by_cases t:j<2
      .exact zm
      .have q:j=2:=by omega
       exact zn
    .go_wp2;go_loop [11,12] (fun x i=>∃j:Nat,1<=j/\j<=3/\i= nI nX j/\x= nI nX (Utf.CR s a j)) (fun _ i=>3-(intOf i).toNat)
     case atStart=>exact⟨1,Zj,Zj,rfl,by rw[F.o];simp[Utf.Ig]⟩
     case round=>
      obtain⟨j,b,d,rfl,rfl⟩:=hrel;have M:=(l.o j b d).1;have r:=(l.o j b d).2;by_cases t:j<3
      .exact zm
      .have q:j=3:=by omega
       exact zn
    .go_wp2;go_loop [11,12] (fun x i=>∃j:Nat,1<=j/\j<=4/\i= nI nX j/\x= nI nX (Utf.CR s a j)) (fun _ i=>4-(intOf i).toNat)
     case atStart=>exact⟨1,Zj,Zj,rfl,by rw[F.o];simp[Utf.Ig]⟩
     case round=>
      obtain⟨j,b,d,rfl,rfl⟩:=hrel;have M:=(l.o j b d).1;have r:=(l.o j b d).2;by_cases t:j<4
      .exact zm
      .have q:j=4:=by omega
       exact zn
theorem RS(s:BY)(a:Nat)(w:Wl)(f:s.size<=2147483648)(h:a<s.size)(d:Utf.NE s a=true):
  Cl prog 153 #[nG s,nI nX a] w fun e w'=>
   e= nR (nT #[nI .i32 (Utf.GY s a),nI nX (Utf.AJ s a),nI nX 0,nI nX 0])/\w=w':=
 (Y9 s a w f h).mono fun e w' ⟨b,c⟩=>by
  rcases b with⟨_,b⟩|⟨b,_⟩
  .exact⟨b,c⟩
  .exact(b ((Utf.El h).1 d)).elim
theorem XB(s:BY)(a:Nat)(w:Wl)(f:s.size<=2147483648)(h:a<s.size)(c:Utf.NE s a=false):
  Cl prog 153 #[nG s,nI nX a] w fun e w'=>
   ∃x y:Int,(x==0)=false/\0<=y/\e= nR (nT #[nI .i32 0,nI nX 0,nI nX x,nI nX y])/\w=w':=
 (Y9 s a w f h).mono fun e w' ⟨b,d⟩=>by
  rcases b with⟨b,_⟩|⟨_,x,y,g,i,b⟩
  .rw[(Utf.El h).2 b]at c;cases c
  .exact⟨x,y,by simpa using g,i,b,d⟩
def UJ(s:BY)(w:Wl)(e:Ending)(w':Wl):Prop:=
 (∃x y:Int,(x==0)=Utf.Al s/\0<=y/\e= nR (nT #[nI nX x,nI nX y]))/\w=w'
theorem XD(s:BY)(w:Wl)(m:s.size<=2147483648):
  Cl prog 119 #[nG s] w (UJ s w):=by
 go_enter func119,ntmps119;go_wp2_with fail;go_loop [4] (fun i=>∃p k:Nat,p<=s.size/\s.size<=p+k/\i= nI nX p/\(Utf.Ch s k p).isSome=Utf.Al s) (fun i=>s.size-(intOf i).toNat)
 case atStart=>exact⟨0,s.size,Zj,Zj,rfl,rfl⟩
 case round=>
  obtain⟨p,k,u,t,rfl,l⟩:=hrel;have f:=hZ l;clear l;by_cases g:p<s.size
  .obtain⟨j,rfl⟩:∃j,k=j+1:=⟨k-1,Zj⟩;by_cases b:Utf.NE s p=true
   .have n:=((Utf.El g).1 b).1
    have o:p+Utf.AJ s p<=s.size:=by
     have:=b;unfold Utf.NE at this;simp only[Bool.and_eq_true,decide_eq_true_eq]at this;omega
    have r:1<=Utf.AJ s p:=Zj;have d:=hZ b
    have a:(Utf.Ch s j (p+Utf.AJ s p)).isSome=Utf.Al s:=by
     rw[<-f.o];simp[Utf.Ch,b,show ¬s.size<=p by omega]
    have c:=hZ a;clear a n b;go_wp2_with(first|(go_at_call 153;refine(RS _ _ _ m g d.o).mono ?_;rintro e w' ⟨rfl,rfl⟩));go_round
    case rel=>exact⟨p+Utf.AJ s p,j,o,Zj,by go_num,c.o⟩
    case measure=>simp[intOf];omega
   .have h:Utf.NE s p=false:=by simpa using b
    have a:Utf.Al s=false:=by rw[<-f.o];simp[Utf.Ch,h,show ¬s.size<=p by omega]
    have c:=hZ a;have d:=hZ h;clear a b h;go_wp2_with(first|(go_at_call 153;refine(XB _ _ _ m g d.o).mono ?_;rintro e w' ⟨x,y,v,q,rfl,rfl⟩));go_ret2;exact⟨⟨_,_,by rw[c.o];assumption,q,rfl⟩,rfl⟩
  .have a:Utf.Al s=true:=by rw[<-f.o];cases k<;>simp[Utf.Ch,show s.size<=p by omega]
   have c:=hZ a;clear a;go_wp2;go_ret2;exact⟨⟨0,0,by rw[c.o];rfl,ZM,rfl⟩,rfl⟩
theorem Ii(s:BY)(w:Wl)(a:s.size<=2147483648):
  Cl prog 90 #[nG s] w fun e w'=>e= nR (.bool (Utf.Al s))/\w=w':=by
 go_enter func90,ntmps90;go_wp2_with(first|(go_at_call 119;refine(XD _ _ a).mono ?_;rintro e w' ⟨⟨x,y,b,c,rfl⟩,rfl⟩));go_ret;exact⟨by simpa using Bo ‹_›,rfl⟩
end
end Go.Proofs.YtamgbmcchhmojaaGreatDoor

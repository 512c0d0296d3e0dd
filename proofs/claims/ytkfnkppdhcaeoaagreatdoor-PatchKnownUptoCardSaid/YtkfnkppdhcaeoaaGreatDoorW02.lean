/- Part 2 of the proof of patchKnown_card. -/
import Derived.Test.YtkfnkppdhcaeoaaGreatDoorM28
import Derived.Test.YtkfnkppdhcaeoaaGreatDoorW01
set_option maxRecDepth 100000
set_option maxHeartbeats 32000000
set_option linter.all false
namespace Go.Proofs.YtkfnkppdhcaeoaaGreatDoor
open Go renaming Calls->Cl,TypeId->Ti,Value->Vl,World->Wl
open Go.Value renaming agg->nA,iface->nF,int->nI,pointer->nP,slice->nS,string->nG,tuple->nT
open Go.IntKind renaming i64->nX
open Go.Ending renaming returned->nR
open Go.Obj renaming cells->nC
open Option renaming none->nN,some->nM
section
open _root_.Go.Proofs.Tryz
open Go Go.RowKit Tree Ptr
def eT(k:Int)(p:BY):Vl:= nF 126 (nA #[nI nX k,nG p])
theorem eZ(k:Int)(p:BY)(w:Wl):Cl prog 69 #[nI nX k,nG p] w fun e w'=>e= nR (eT k p)/\Chg w w' []:=by
 go_enter func69,ntmps69
 go_wp2
 go_ret
 exact⟨rfl,Chg.refl _ _⟩
structure eR(ks:List BY)(l:List Tr)(vs:List Vl)(F:Nat->Prop)(la:Option Addr)(w:Wl):Prop where
 len:ks.length=l.length
 row:LP w F la (Kp ks vs)
 kids:Dc w F l vs
 lt:∀b,F b->b<w.heap.size
 many:ks.length<=65536
theorem eR.kept{ks:List BY}{l:List Tr}{vs:List Vl}{F:Nat->Prop}{d:Option Addr}{w w':Wl}(h:eR ks l vs F d w)(a:Chg w w' []):eR ks l vs F d w':=by
 have c:=a.keepsF h.lt;exact⟨h.len,h.row.kept c (fun _ x=>x),Dc.kept c (fun _ x=>x) _ _ h.kids,fun b e=>Q6 (h.lt b e) a.size,h.many⟩
theorem eR.at_{ks:List BY}{l:List Tr}{vs:List Vl}{F:Nat->Prop}{m:Option Addr}{w:Wl}(h:eR ks l vs F m w){a:BY}(i:C4 ks a=true):
  ∃b o c d,m=nM ⟨b,o,nN⟩/\A5 ks a<ks.length/\w.cell? ⟨b,o+A5 ks a*2+1,nN⟩=nM (nF c d)/\Hm w F (l.getD (A5 ks a) .null) (nF c d):=by
 have j:=Dk (Cp.1 i);have s:=Gk (Cp.1 i);obtain⟨t,k⟩:∃t,l[A5 ks a]? =nM t:=⟨_,Q9 (by rw[<-h.len];exact j)⟩
 obtain⟨v,q,g⟩:=h.kids.get _ _ k;obtain⟨c,d,rfl⟩:=g.iface;obtain⟨f,n⟩:=eM s q
 rcases h.row with p|⟨b,o,e,_,r⟩
 .rw[p]at f;simp at f
 .exact⟨b,o,c,d,e,j,by rw[Nat.add_assoc];exact r _ _ n,by rw[List.getD_eq_getElem?_getD,k];exact g⟩
end
section
open Go Go.Shelf Go.RowKit Go.Lib Tree Ptr
def dM(w:Wl):Prop:=∀m:Nat,m<6->w.cell? ⟨0,m,nN⟩=nM (nG (Ec (m+1)))
theorem dM.kept{w w':Wl}(h:dM w)(a:Chg w w' []):dM w':=fun m b=>a.keeps (h m b)
end
section
open _root_.Go.Proofs.Tryz
open Go Go.Shelf Go.RowKit Go.Lib Tree
def iI(w:Wl)(sv:Vl)(l:List Bq):Prop:=∃a c,sv= nS a l.length c/\∀i p,l[i]? =nM p->∃b o sk,a=nM ⟨b,o,nN⟩/\DX w sk p.steps/\∀j v,(BJ p sk)[j]? =nM v->w.cell? ⟨b,o+i*4+j,nN⟩=nM v
theorem iI.kept{w w':Wl}{sv:Vl}{l:List Bq}(h:iI w sv l)(d:Chg w w' []):iI w' sv l:=by
 obtain⟨a,c,e,h⟩:=h;refine⟨a,c,e,fun i p m=> ?_⟩;obtain⟨b,o,sk,f,g,k⟩:=h i p m;exact⟨b,o,sk,f,g.kept d,fun j v n=>d.keeps (k j v n)⟩
theorem iI.ofR{w:Wl}{sv:Vl}{l:List Bq}{xs:List Vl}(d:As w sv 4 l.length xs)(k:Cc w l xs):iI w sv l:=by
 obtain⟨a,c,rfl,_⟩:=d.form;refine⟨a,c,rfl,fun i p e=> ?_⟩;have n:0<l.length:=Nat.lt_of_le_of_lt (Nat.zero_le _) (Qc.1 e).1;obtain⟨b,o,rfl,m⟩:=d.base n ZM;obtain⟨sk,ys,f,g,h⟩:=k.get i p e;exact⟨b,o,sk,rfl,SL f g,fun j v q=>by rw[Nat.add_assoc];exact m _ v (h j v q)⟩
theorem iI.ofAt{w0 w:Wl}{sv:Vl}{l:List Bq}{xs:List Vl}{G:Nat->Prop}(h:EW w0 w l sv xs G):iI w sv l:=iI.ofR h.row h.ops.toIn
theorem jY(p:Bq)(c d:Vl)(w:Wl)(a:DX w c p.steps)(i:DX w d p.steps)(l:p.steps.length<=4294967296)(j:∀s∈p.steps,s.keys.length<=4294967296):
  Cl prog 18 #[nA (BJ p c).toArray,nA (BJ p d).toArray] w (BU true w):=by
 have g:=UD (∀b,Chg w b []->Cl prog 37 #[c,d,.func (.func 39) #[] #[]] b (BU true b)) fun b m=>Rf _ _ _ b (a.kept m) (i.kept m) l j
 obtain⟨h,c1,rfl,_⟩:=a;obtain⟨o,q,rfl,_⟩:=i;obtain⟨f,k⟩:=Ue p.steps.length
 rw[<-k]at g|-;have r:=UD (Ac ((w.alloc (nC (BJ p (nS h f c1)).toArray 42)).alloc (nC (BJ p (nS o f q)).toArray 42)) w.heap.size (BJ p (nS h f c1)) 42) ((Ac.new w _ _).alloc _);clear l k j;obtain⟨u,pa,t,v⟩:=p;unfold BJ at*
 dsimp only at*
 go_enter func18,ntmps18
 go_wp2_with((go_at_call 37;refine(g.o _ (by exact cg cR)).mono ?_;rintro e x ⟨rfl,a⟩;have n:=hZ a;clear a))
 go_ret
 exact⟨rfl,ct cR n.o⟩
theorem lj(l:List Bq)(I J:Vl)(w:Wl)(S:iI w I l)(T:iI w J l)(U:l.length<=4294967296)(C:∀p∈l,p.steps.length<=4294967296/\∀s∈p.steps,s.keys.length<=4294967296):
  Cl prog 17 #[I,J,.func (.func 18) #[] #[]] w (BU true w):=by
 obtain⟨a1,c1,rfl,y⟩:=S;obtain⟨a2,Q,rfl,z⟩:=T;have N:=hZ y;have O:=hZ z;have t:=hZ C;obtain⟨n,m⟩:=Ue l.length
 have ab:((n:Int) !=(n:Int))=false:=Zh
 have M:=hZ m;rw[<-m]at U|-;clear y z C m;go_enter func17,ntmps17
 go_wp2_with fail
 go_loopw [17] (fun r wr=>∃i:Nat,i<=n/\r= nI nX i/\Chg w wr []) (fun r _=>n-(intOf r).toNat)
 case atStart=>exact⟨0,Zj,rfl,Chg.refl _ _⟩
 case round=>
  obtain⟨i,hi,rfl,B⟩:=hrel;have a:=hZ B;clear B;by_cases aa:i<n
  .obtain⟨p,f⟩:∃s,l[i]? =nM s:=⟨_,Q9 (by have:=M.o;omega)⟩
   obtain⟨b,o,sk,rfl,F,D⟩:=N.o i p f;obtain⟨u,Z,K,rfl,G,E⟩:=O.o i p f;have k:=UD (∀g,Chg wr g []->Cl prog 18 #[nA (BJ p sk).toArray,nA (BJ p K).toArray] g (BU true g)) fun g h=>jY p sk K g (F.kept (a.o.trans h)) (G.kept (a.o.trans h)) (t.o p (Qi f)).1 (t.o p (Qi f)).2
   obtain⟨V,X,rfl,_⟩:=F;obtain⟨W,Y,rfl,_⟩:=G;have c:∀j v,(BJ p (nS V p.steps.length X))[j]? =nM v->wr.cell? ⟨b,o+i*4+j,nN⟩=nM v:=fun j v q=>a.o.keeps (D j v q)
   have d:∀j v,(BJ p (nS W p.steps.length Y))[j]? =nM v->wr.cell? ⟨u,Z+i*4+j,nN⟩=nM v:=fun j v q=>a.o.keeps (E j v q)
   have P:=c 0 _ rfl;have c1:=c 1 _ rfl;have Q:=c 2 _ rfl;have c3:=c 3 _ rfl;have x:=d 0 _ rfl;have d1:=d 1 _ rfl;have d2:=d 2 _ rfl;have R:=d 3 _ rfl;rw[Nat.add_zero]at P x;have lb:u<wr.heap.size:=World.block_lt_of_cell? wr _ x;obtain⟨sl,H⟩:=Ue p.steps.length
   rw[<-H]at k c3 R;clear f D E c d H;obtain⟨ki,pa,fr,st⟩:=p;unfold BJ at k
   dsimp only at*
   go_wp2_with((go_at_call 18;refine(k.o _ (by exact cg cR)).mono ?_;rintro e w3 ⟨rfl,A⟩;have L:=UD (Chg wr w3 []) (ct cR A);clear A))
   go_roundw
   case rel=>exact⟨i+1,Zj,by go_num,Chg.trans (b:=_) a.o L.o⟩
   case measure=>simp[intOf];omega
  .go_wp2_with fail
   go_ret
   exact⟨rfl,a.o⟩
end
section
open Go Go.RowKit Tree Ptr
def k0:BY:=⟨#[48]⟩
def k2:BY:=⟨#[50]⟩
def k3:BY:=⟨#[51]⟩
def kX:BY:=⟨#[120]⟩
theorem mN{t:Tr}{o:Bq}{ts us:List BY}{x:Tr}{r:PV}(v:1<=o.kind/\o.kind<=6)(n:A6 ts=o.path)(q:(ts.all fun s=>CY s.data.toList)=true)(p:ts.length<=65536)(m:AO o.kind=true->A6 us=o.frm/\(us.all fun s=>CY s.data.toList)=true/\us.length<=65536)(f:AN o.kind=true->AS o.steps=nM x)(a:Da t o ts us x=r):Gz t o=r:=by
 have d:∀{l:List BY},(l.all fun s=>CY s.data.toList)=true->∀s∈l,Utf.Al s=true:=fun h s a=>by
  rw[E8];exact List.all_eq_true.1 h s a
 have b:AD o.path=nM ts:=by rw[<-n];exact FT (d q) p
 have c:AO o.kind=true->AD o.frm=nM us:=fun u=>by
  obtain⟨e,i,j⟩:=m u;rw[<-e];exact FT (d i) j
 have k:Bn o=0:=by
  unfold Bn
  rw[Qs Zj,Qs (by
   rw[b];rintro(h|⟨h,g⟩)
   .cases h
   .rw[c h]at g;cases g),Qs (by
   rintro⟨h,g⟩;rw[f h]at g
   cases g)]
 rw[<-a];exact(VL k b c f).symm
theorem mO:AS [Fv f5]=nM (.num f5):=FE (t:= .num f5) aA ZM
theorem nO:AS [Fv f1]=nM (.num f1):=FE (t:= .num f1) Xb ZM
def mM(k:Int)(p f:BY)(s:List Ap):Bq:=⟨k,p,f,s⟩
def mP:List Ap:=[Fv f5]
def mV:List Ap:=[Fv f1,Fv f2,Un 2]
def ol:Bq:=mM 6 ⟨#[47,97,47,48]⟩ Dz [Fv f1]
theorem qzd:Gz T0 ol= .yes T0 []:=mN (ts:=[kA,k0]) (us:=[]) (x:= .num f1) ZM rfl ZM ZM (fun h=>by cases h) (fun _=>nO) ZN
def oj:Tr:= .obj [kA,kB] [.list [.num f2],.obj [kC] [.null]]
def oH:Tr:= .obj [kA,kB] [.list [.num f2],.num f5]
def nc:Tr:= .obj [kB] [.obj [kC,kX] [.null,.list [.num f1,.num f2]]]
def qzg:Tr:= .obj [kA,kB] [.num f2,.obj [kC,kX] [.null,.list [.num f1,.num f2]]]
def qzh:Tr:= .obj [kA,kB] [.list [.num f1,.num f2,.num f5],.obj [kC] [.null]]
def pu:Tr:= .obj [kA,kB] [.list [.num f1,.num f2,.num f5],.num f5]
def pw:Tr:= .obj [kB] [.obj [kC] [.list [.num f1,.num f2]]]
theorem m9:Cy [kC,kX]:=⟨ZM,ZM,ZM,ZM⟩
theorem nZ:Bt oH:=⟨⟨U3,rfl,⟨Xc,trivial⟩,aA,trivial⟩,ZM⟩
theorem od:Bt qzg:=⟨⟨U3,rfl,Xc,⟨m9,rfl,trivial,⟨Xb,Xc,trivial⟩,trivial⟩,trivial⟩,ZM⟩
theorem qze:Bt (.num f5):=⟨aA,ZM⟩
theorem oe:Bt (.num f2):=⟨Xc,ZM⟩
theorem mY:Bt (.list [.num f1,.num f2]):=⟨⟨Xb,Xc,trivial⟩,ZM⟩
theorem nK:AS mV=nM (.list [.num f1,.num f2]):=FE (t:= .list [.num f1,.num f2]) mY.good mY.fits
theorem oM:Gz T0 (mM 2 ⟨#[47,97,47,48]⟩ Dz [])= .yes oj [⟨1,⟨#[47,97,47,48]⟩,Dz,Ai (.num f1)⟩]:=mN (ts:=[⟨#[97]⟩,⟨#[48]⟩]) (us:=[]) (x:= .null) ZM ZN ZM ZM (fun h=>by cases h) (fun h=>by cases h) ZN
theorem oN:Gz oj (mM 3 ⟨#[47,98]⟩ Dz mP)= .yes oH [⟨3,⟨#[47,98]⟩,Dz,Ai (.obj [kC] [.null])⟩]:=mN (ts:=[⟨#[98]⟩]) (us:=[]) (x:= .num f5) ZM ZN ZM ZM (fun h=>by cases h) (fun _=>mO) ZN
theorem oJ(a b:Tr):D1 ([kC]++[kX]) ([a]++[b])= .obj [kC,kX] [a,b]:=m9.objT rfl
theorem oI(a b:Tr):D1 ([kB]++[kA]) ([a]++[b])= .obj [kA,kB] [b,a]:=
 If (ks:=[kB]) (l:=[a]) (s:=kA) (x:=b) (i:=0) ⟨ZM,ZM,ZM,ZM⟩ rfl (fun h=>absurd (congrArg (fun b:BY=>b.data.toList) (List.mem_singleton.1 h)) ZM) Zj (fun t k h=>Zj) (fun t k _ c=>by
  match t,c with
  |0,c=>injection c with c;subst c;decide+kernel
  |t+1,c=>simp at c)
theorem oy:At (A8 T0 [kA]) [kB,kX] (.list [.num f1,.num f2])=nc:=by
 show Tr.obj [kB] [D1 ([kC]++[kX]) ([.null]++[.list [.num f1,.num f2]])]=nc
 rw[oJ];rfl
theorem ox:At nc [kA] (.num f2)=qzg:=by
 show D1 ([kB]++[kA]) ([.obj [kC,kX] [.null,.list [.num f1,.num f2]]]++[.num f2])=qzg
 rw[oI];rfl
theorem nB{t u:Tr}{ts:List BY}{x:Tr}{a:List CW}(d:EN t ts=0)(b:At t ts x=u)(c:(Ag u).within=true):Ga t ts x a= .yes u (Dd t ts::a):=by
 unfold Ga Kj;rw[Qs (by rw[d];exact fun h=>h rfl),b,Qr c]
theorem oO:Gz T0 (mM 4 ⟨#[47,98,47,120]⟩ ⟨#[47,97]⟩ [])= .yes nc [⟨2,⟨#[47,98,47,120]⟩,Dz,[]⟩,⟨1,⟨#[47,97]⟩,Dz,Ai (.list [.num f1,.num f2])⟩]:=mN (ts:=[⟨#[98]⟩,⟨#[120]⟩]) (us:=[⟨#[97]⟩]) (x:= .null) ZM ZN ZM ZM (fun _=>⟨ZN,ZM,ZM⟩) (fun h=>by cases h) ((show _=Ga (A8 T0 [kA]) [kB,kX] (.list [.num f1,.num f2]) [⟨1,A6 [kA],Dz,Ai (.list [.num f1,.num f2])⟩]from rfl).trans (nB ZM oy ZM))
theorem oP:Gz nc (mM 5 ⟨#[47,97]⟩ ⟨#[47,98,47,120,47,49]⟩ [])= .yes qzg [⟨2,⟨#[47,97]⟩,Dz,[]⟩]:=mN (ts:=[⟨#[97]⟩]) (us:=[⟨#[98]⟩,⟨#[120]⟩,⟨#[49]⟩]) (x:= .null) ZM ZN ZM ZM (fun _=>⟨ZN,ZM,ZM⟩) (fun h=>by cases h) ((show _=Ga nc [kA] (.num f2) []from rfl).trans (nB ZM ox ZM))
theorem pn:Gz T0 (mM 1 Dz Dz mP)= .yes (.num f5) [⟨3,Dz,Dz,Ai T0⟩]:=mN (ts:=[]) (us:=[]) (x:= .num f5) ZM ZN ZM ZM (fun h=>by cases h) (fun _=>mO) ZN
theorem po:Gz T0 (mM 4 Dz ⟨#[47,97,47,49]⟩ [])= .yes (.num f2) [⟨3,Dz,Dz,Ai (.obj [kA,kB] [.list [.num f1],.obj [kC] [.null]])⟩,⟨1,⟨#[47,97,47,49]⟩,Dz,Ai (.num f2)⟩]:=mN (ts:=[]) (us:=[⟨#[97]⟩,⟨#[49]⟩]) (x:= .null) ZM ZN ZM ZM (fun _=>⟨ZN,ZM,ZM⟩) (fun h=>by cases h) ZN
theorem pp:Gz T0 (mM 6 ⟨#[47,97]⟩ Dz mV)= .yes T0 []:=mN (ts:=[⟨#[97]⟩]) (us:=[]) (x:= .list [.num f1,.num f2]) ZM ZN ZM ZM (fun h=>by cases h) (fun _=>nK) ZN
theorem qzb:Dd T0 [kA,⟨#[45]⟩]=⟨2,⟨#[47,97,47,50]⟩,Dz,[]⟩:=by
 show(⟨2,A6 ([kA]++[⟨(Go.Lib.decDigits 2).toArray⟩]),Dz,[]⟩:CW)=_
 rw[Go.Lib.decDigits_one Zj];rfl
theorem oQ:Gz T0 (mM 1 ⟨#[47,97,47,45]⟩ Dz mP)= .yes qzh [⟨2,⟨#[47,97,47,50]⟩,Dz,[]⟩]:=mN (ts:=[⟨#[97]⟩,⟨#[45]⟩]) (us:=[]) (x:= .num f5) ZM ZN ZM ZM (fun h=>by cases h) (fun _=>mO) ((show _=Ga T0 [kA,⟨#[45]⟩] (.num f5) []from rfl).trans ((nB ZM (u:=qzh) rfl ZM).trans (by rw[qzb])))
theorem oR:Gz qzh (mM 3 ⟨#[47,98]⟩ Dz mP)= .yes pu [⟨3,⟨#[47,98]⟩,Dz,Ai (.obj [kC] [.null])⟩]:=mN (ts:=[⟨#[98]⟩]) (us:=[]) (x:= .num f5) ZM ZN ZM ZM (fun h=>by cases h) (fun _=>mO) ZN
theorem pq:Gz T0 (mM 4 ⟨#[47,98,47,99]⟩ ⟨#[47,97]⟩ [])= .yes pw [⟨3,⟨#[47,98,47,99]⟩,Dz,Ai .null⟩,⟨1,⟨#[47,97]⟩,Dz,Ai (.list [.num f1,.num f2])⟩]:=mN (ts:=[⟨#[98]⟩,⟨#[99]⟩]) (us:=[⟨#[97]⟩]) (x:= .null) ZM ZN ZM ZM (fun _=>⟨ZN,ZM,ZM⟩) (fun h=>by cases h) ZN
theorem oS:Gz T0 (mM 6 ⟨#[47,98,47,99]⟩ Dz mP)= .no 173:=mN (ts:=[⟨#[98]⟩,⟨#[99]⟩]) (us:=[]) (x:= .num f5) ZM ZN ZM ZM (fun h=>by cases h) (fun _=>mO) ZN
theorem oT:Gz T0 (mM 2 Dz Dz [])= .no 176:=mN (ts:=[]) (us:=[]) (x:= .null) ZM ZN ZM ZM (fun h=>by cases h) (fun h=>by cases h) ZN
theorem oU:Gz T0 (mM 4 ⟨#[47,98,47,99,47,120]⟩ ⟨#[47,98]⟩ [])= .no 175:=mN (ts:=[⟨#[98]⟩,⟨#[99]⟩,⟨#[120]⟩]) (us:=[⟨#[98]⟩]) (x:= .null) ZM ZN ZM ZM (fun _=>⟨ZN,ZM,ZM⟩) (fun h=>by cases h) ZN
theorem oV:Gz T0 (mM 1 ⟨#[47,97,47,51]⟩ Dz mP)= .no 4:=mN (ts:=[⟨#[97]⟩,⟨#[51]⟩]) (us:=[]) (x:= .num f5) ZM ZN ZM ZM (fun h=>by cases h) (fun _=>mO) ZN
theorem oW:Gz T0 (mM 1 ⟨#[47,97,47,48,49]⟩ Dz mP)= .no 172:=mN (ts:=[⟨#[97]⟩,⟨#[48,49]⟩]) (us:=[]) (x:= .num f5) ZM ZN ZM ZM (fun h=>by cases h) (fun _=>mO) ZN
theorem oX:Gz T0 (mM 1 ⟨#[47,97,47,48,47,120]⟩ Dz mP)= .no 5:=mN (ts:=[⟨#[97]⟩,⟨#[48]⟩,⟨#[120]⟩]) (us:=[]) (x:= .num f5) ZM ZN ZM ZM (fun h=>by cases h) (fun _=>mO) ZN
theorem oY:Gz T0 (mM 2 ⟨#[47,97,47,45]⟩ Dz [])= .no 4:=mN (ts:=[⟨#[97]⟩,⟨#[45]⟩]) (us:=[]) (x:= .null) ZM ZN ZM ZM (fun h=>by cases h) (fun h=>by cases h) ZN
theorem oZ:Gz T0 (mM 1 ⟨#[120]⟩ Dz mP)= .no 171:=by
 have h:AD ⟨#[120]⟩=nN:=by unfold AD;rw[Qs (by rintro⟨_,h,_⟩;revert h;decide)]
 have:Bn (mM 1 ⟨#[120]⟩ Dz mP)=171:=by
  unfold Bn;rw[Qs ZM,Qr (.inl h)]
 unfold Gz;rw[this];rfl
theorem o3:Gz T0 (mM 7 Dz Dz [])= .no 170:=by
 have:Bn (mM 7 Dz Dz [])=170:=by
  unfold Bn;rw[Qr ZM]
 unfold Gz;rw[this];rfl
theorem qzj{p q:Prop}(h:¬p)(g:¬q):¬(p\/q):=fun k=>k.elim h g
theorem o4:Gz T0 (mM 1 ⟨#[47,97]⟩ Dz [])= .no 174:=by
 have h:AD ⟨#[47,97]⟩=nM [kA]:=FT (ts:=[kA]) (fun t c=>by rw[List.mem_singleton.1 c,E8];decide) ZM;have b:(AS []).isNone=true:=ZN
 have a:¬AD (mM 1 ⟨#[47,97]⟩ Dz []).path=nN:=by
  show ¬AD ⟨#[47,97]⟩=nN
  rw[h];exact fun e=>by cases e
 have:Bn (mM 1 ⟨#[47,97]⟩ Dz [])=174:=by
  unfold Bn;rw[Qs ZM,Qs (qzj a (by rintro⟨g,_⟩;cases g)),Qr ⟨rfl,b⟩]
 unfold Gz;rw[this];rfl
end
section
open Go Go.Shelf Go.RowKit Go.Lib Tree Ptr
structure fT(w0:Wl)(os:List Bq)(i:Nat)(sv:Vl)(w:Wl):Prop where
 ex:∃xs G,Ba w sv 42 4 i xs/\Eh w G (os.take i) xs/\(∀b,G b->w0.heap.size<=b/\b<w.heap.size)/\∀g,sv.ownBlock=nM g->w0.heap.size<=g/\¬G g
 chg:Chg w0 w []
theorem fT.next{w0 wr c t k:Wl}{os:List Bq}{i g u:Nat}{o:Bq}{sv p:Vl}{xs ys:List Vl}{G d:Nat->Prop}(w:Chg w0 wr [])(D:Ba wr sv 42 4 i xs)(E:Eh wr G (os.take i) xs)(r:∀b,G b->w0.heap.size<=b/\b<wr.heap.size)(n:∀g,sv.ownBlock=nM g->w0.heap.size<=g/\¬G g)(J:os[i]? =nM o)(q:Chg wr c [])(F:As c p 6 o.steps.length ys)(v:SE d p)(H:Cr c d o.steps ys)(f:∀b,d b->wr.heap.size<=b/\b<c.heap.size)(l:Chg c t [])(C:Ba k (nS (nM ⟨g,0,nN⟩) (i+1) u) 42 4 (i+1) (xs++BJ o p))(m:Chg t k sv.ownBlock.toList)(I:sv.ownBlock=nM g\/g=t.heap.size):fT w0 os (i+1) (nS (nM ⟨g,0,nN⟩) (i+1) u) k:=by
 have M:=q.size;have N:=l.size;have O:=m.size;have L:=w.size;have x:∀y,sv.ownBlock=nM y->y<wr.heap.size:=fun y j=>D.lt j
 have K:BZ G wr k:=((q.trans l).none sv.ownBlock.toList|>.trans m).keepsF (fun b a=>(r b a).2) (fun b s a=>(n b (by simpa using s)).2 a);have z:BZ d c k:=((l.none sv.ownBlock.toList).trans m).keepsF (fun b a=>(f b a).2) (fun b s a=>by have A:=x b (by simpa using s);have B:=(f b a).1;omega);refine⟨⟨_,fun b=>G b\/d b,C, ?_,fun b a=> ?_,fun y j=> ?_⟩,((w.trans q).trans l).fresh m (fun y j=>(n y (by simpa using j)).1)⟩
 .rw[Cb J]
  refine(Eh.kept K (fun _ h=> .inl h) E).append ⟨p,ys,[],by simp,F.keptF v z,v.mono (fun _ h=> .inr h),Cr.kept z (fun _ h=> .inr h) H,rfl⟩
 .rcases a with a|a
  .have:=r b a;omega
  .have:=f b a;omega
 .have e:g=y:=by injection j
  subst e
  rcases I with h|h
  .refine⟨(n g h).1,fun a=> ?_⟩
   rcases a with a|a
   .exact(n g h).2 a
   .have A:=x g h;have B:=(f g a).1;omega
  .refine⟨by omega,fun a=> ?_⟩
   rcases a with a|a
   .have:=r g a;omega
   .have:=f g a;omega
theorem fT.done{w0 w:Wl}{os:List Bq}{sv:Vl}{n:Nat}(h:fT w0 os n sv w)(j:n=os.length):∃xs G,EW w0 w os sv xs G:=by
 obtain⟨xs,G,f,d,g,i⟩:=h.ex;subst j;rw[List.take_length]at d;refine⟨xs,fun b=>G b\/sv.ownBlock=nM b,f.rowC (by rw[d.length]),fun b o n c e=> ?_,Eh.kept (fun _ _ _=>rfl) (fun _ h=> .inl h) d,fun b a=> ?_⟩
 .rw[e];exact .inr rfl
 .rcases a with a|a
  .exact g b a
  .exact⟨(i b a).1,f.lt a⟩
theorem fT.start{w a:Wl}{os:List Bq}(h:Chg w a []):fT w os 0 (nS nN 0 0) a:=⟨⟨[],fun _=>False,Ba.nil _ _ _,rfl,fun b (c:False)=>c.elim,fun g d=>by cases d⟩,h⟩
def gE(os:List Bq)(w:Wl)(e:Ending)(w':Wl):Prop:=∃a xs G,e= nR (nT #[a,.nilIface])/\EW w w' os a xs G/\Chg w w' []
end
section
open _root_.Go.Proofs.Tryz
open Go Go.Shelf Go.RowKit Go.Lib Tree Ptr
theorem fT.ext{w0 w:Wl}{os b:List Bq}{i:Nat}{sv:Vl}(h:fT w0 os i sv w)(e:os.take i=b.take i):fT w0 b i sv w:=by
 obtain⟨⟨xs,G,c,a,d,f⟩,g⟩:=h;rw[e]at a;exact⟨⟨xs,G,c,a,d,f⟩,g⟩
theorem my{t:Tr}{F:Nat->Prop}{d:Ti}{f:Vl}{w:Wl}(h:Hm w F t (nF d f))(g:∀l,t≠ .list l)(e:Wl):
  (Instr.typeAssert (nF d f) 144 141 true).run prog e= .ok (nT #[nS nN 0 0,.bool false]) e:=by
 cases t<;>simp only[Hm,AG]at h
 .injection h with a b;subst a;subst b;kernel_rfl
 .injection h with a b;subst a;subst b;kernel_rfl
 .injection h with a b;subst a;subst b;kernel_rfl
 .injection h with a b;subst a;subst b;kernel_rfl
 .exact absurd rfl (g _)
 .obtain⟨i,c,vs,a,_⟩:=h;injection a with a b;subst a;kernel_rfl
def lm(r:ZV)(w:Wl)(e:Ending)(w':Wl):Prop:=match r with
 | .no k q=>e= nR (nT #[nS nN 0 0,eT k q])/\Chg w w' []
 | .yes os=>gE (os.map CW.toI) w e w'
theorem lp(t:Tr)(F:Nat->Prop)(c:Nat)(w:Wl)(h:CG w F c t)(g:∀b,F b->b<w.heap.size)(i:Bt t)(j:∀l,t≠ .list l):
  Cl prog 34 #[nP (nM ⟨c,0,nN⟩)] w (lm (.no 5 Dz) w):=by
 have o:=hZ (M9 t F c w h g (Ar i.fits).1);have n:=hZ j;clear h g i j;go_enter func34,ntmps34
 go_wp2_with(first
  |(go_at_call 68;refine o.o.mono ?_;rintro e s ⟨v,G,rfl,a,d,p⟩;obtain⟨r,u,rfl⟩:=a.iface;have q:=my a n.o;have k:=hZ d;clear a d p)
  |(go_at_call 69;refine(eZ _ _ _).mono ?_;rintro e w2 ⟨rfl,f⟩;have m:=hZ (k.o.trans f);clear f))
 go_ret2
 exact⟨rfl,m.o⟩
end
end Go.Proofs.YtkfnkppdhcaeoaaGreatDoor

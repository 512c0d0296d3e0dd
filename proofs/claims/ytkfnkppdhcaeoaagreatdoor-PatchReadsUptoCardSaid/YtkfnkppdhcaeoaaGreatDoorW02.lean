/- Part 2 of the proof of patchReads_card. -/
import Derived.Test.YtkfnkppdhcaeoaaGreatDoorM28
import Derived.Test.YtkfnkppdhcaeoaaGreatDoorW01
set_option maxRecDepth 100000
set_option maxHeartbeats 32000000
set_option linter.all false
namespace Go.Proofs.YtkfnkppdhcaeoaaGreatDoor
open Go renaming Calls->Cl,TypeId->Ti,Value->Vl,World->Wl
open Go.Value renaming agg->nA,iface->nF,int->nI,pointer->nP,slice->nS,string->nG,tuple->nT
open Go.IntKind renaming i64->nX
open Go.Ending renaming returned->nR
open Go.Obj renaming cells->nC
open Option renaming none->nN,some->nM
section
open _root_.Go.Proofs.Tryz
open Go Go.RowKit Tree Ptr
def eT(k:Int)(p:BY):Vl:= nF 126 (nA #[nI nX k,nG p])
theorem eZ(k:Int)(p:BY)(w:Wl):Cl prog 69 #[nI nX k,nG p] w fun e w'=>e= nR (eT k p)/\Chg w w' []:=by
 go_enter func69,ntmps69
 go_wp2
 go_ret
 exact⟨rfl,Chg.refl _ _⟩
structure eR(ks:List BY)(l:List Tr)(vs:List Vl)(F:Nat->Prop)(la:Option Addr)(w:Wl):Prop where
 len:ks.length=l.length
 row:LP w F la (Kp ks vs)
 kids:Dc w F l vs
 lt:∀b,F b->b<w.heap.size
 many:ks.length<=65536
theorem eR.kept{ks:List BY}{l:List Tr}{vs:List Vl}{F:Nat->Prop}{d:Option Addr}{w w':Wl}(h:eR ks l vs F d w)(a:Chg w w' []):eR ks l vs F d w':=by
 have c:=a.keepsF h.lt;exact⟨h.len,h.row.kept c (fun _ x=>x),Dc.kept c (fun _ x=>x) _ _ h.kids,fun b e=>Q6 (h.lt b e) a.size,h.many⟩
theorem eR.boxed{ks:List BY}{l:List Tr}{vs:List Vl}{F:Nat->Prop}{e:Option Addr}{w:Wl}(h:eR ks l vs F e w):∀v∈vs,∃f g,v= nF f g:=fun v d=>by
 obtain⟨i,hi⟩:=List.mem_iff_getElem?.1 d;have k:=h.kids.length;have j:=(Qc.1 hi).1;obtain⟨t,c⟩:∃t,l[i]? =nM t:=⟨_,Q9 Zj⟩
 obtain⟨m,a,b⟩:=h.kids.get i t c;rw[hi]at a
 injection a with a
 subst a;exact b.iface
theorem eR.at_{ks:List BY}{l:List Tr}{vs:List Vl}{F:Nat->Prop}{m:Option Addr}{w:Wl}(h:eR ks l vs F m w){a:BY}(i:C4 ks a=true):
  ∃b o c d,m=nM ⟨b,o,nN⟩/\A5 ks a<ks.length/\w.cell? ⟨b,o+A5 ks a*2+1,nN⟩=nM (nF c d)/\Hm w F (l.getD (A5 ks a) .null) (nF c d):=by
 have j:=Dk (Cp.1 i);have s:=Gk (Cp.1 i);obtain⟨t,k⟩:∃t,l[A5 ks a]? =nM t:=⟨_,Q9 (by rw[<-h.len];exact j)⟩
 obtain⟨v,q,g⟩:=h.kids.get _ _ k;obtain⟨c,d,rfl⟩:=g.iface;obtain⟨f,n⟩:=eM s q
 rcases h.row with p|⟨b,o,e,_,r⟩
 .rw[p]at f;simp at f
 .exact⟨b,o,c,d,e,j,by rw[Nat.add_assoc];exact r _ _ n,by rw[List.getD_eq_getElem?_getD,k];exact g⟩
def eW(r:ZU)(w:Wl)(e:Ending)(w':Wl):Prop:=Chg w w' []/\match r with
 | .no k q=>e= nR (nT #[nG ⟨#[]⟩,eT k q])
 | .yes s=>e= nR (nT #[nG s,.nilIface])
def eS:Tr->Option BY
 | .text s=>nM s
 |_=>nN
theorem fg{t:Tr}{F:Nat->Prop}{d:Ti}{f:Vl}{w:Wl}(h:Hm w F t (nF d f))(e:Wl):
  (Instr.typeAssert (nF d f) 144 179 true).run prog e= .ok (nT #[nG ((eS t).getD ⟨#[]⟩),.bool (eS t).isSome]) e:=by
 cases t<;>simp only[Hm,AG]at h
 .injection h with a b;subst a;subst b;kernel_rfl
 .injection h with a b;subst a;subst b;kernel_rfl
 .injection h with a b;subst a;subst b;kernel_rfl
 .injection h with a b;subst a;subst b;kernel_rfl
 .obtain⟨i,vs,a,_⟩:=h;injection a with a b;subst a;kernel_rfl
 .obtain⟨g,c,vs,a,_⟩:=h;injection a with a b;subst a;kernel_rfl
theorem fe{ks:List BY}{l:List Tr}{p b s:BY}(h:C4 ks b=true)(a:eS (l.getD (A5 ks b) .null)=nM s):E4 ks l p b= .yes s:=by
 unfold E4;rw[Qr h];unfold eS at a;split at a
 .rename_i c;rw[c];injection a with a;rw[a]
 .cases a
theorem fd{ks:List BY}{l:List Tr}{p a:BY}(h:C4 ks a=true)(b:eS (l.getD (A5 ks a) .null)=nN):E4 ks l p a= .no 5 (X1 p a):=by
 unfold E4;rw[Qr h];unfold eS at b;split
 .rename_i s c;rw[c]at b;simp at b
 .rfl
theorem fi(ks:List BY)(l:List Tr)(vs:List Vl)(F:Nat->Prop)(y:Option Addr)(c:Nat)(p a:BY)(w:Wl)(h:eR ks l vs F y w)(Q:p.size<=1000)(N:a.size<=1000):
  Cl prog 118 #[nS y ks.length c,nG p,nG a] w (eW (E4 ks l p a) w):=by
 have P:∀(D:Fn) (first C:Array Vl) (w:Wl),(Instr.makeFunc D first C).run prog w= .ok (.func D first C) w:=fun _ _ _ _=>rfl
 have O:=h.many
 have j:=UD (∀X q,Chg w q []->Ac q X [nG a] 9->Cl prog 121 #[nS y ks.length c,.func (.func 159) #[] #[nP (nM ⟨X,0,nN⟩)]] q fun e w'=>e= nR (nI nX (eN ks a))/\Chg q w' []) fun X q K I=>
  eV 159 #[nP (nM ⟨X,0,nN⟩)] a ks vs F y c q (by rw[h.len,h.kids.length]) Zj (h.kept K).row h.boxed (fun _ _=>Yb) fun M k E G L=>eP k a E G X M (I.kept L)
 have v:=UD (Ac (w.alloc (nC #[nG a] 9)) w.heap.size [nG a] 9) (Ac.new w [nG a] _);by_cases f:C4 ks a=true
 .obtain⟨b,o,E,G,rfl,J,c1,A⟩:=h.at_ f
  have m:eN ks a=(A5 ks a:Int):=by unfold eN;rw[Qr f]
  rw[m]at j;obtain⟨i,hi⟩:=Ue (A5 ks a)
  rw[<-hi]at j c1 J;have x:=fg A
  cases n:eS (l.getD (A5 ks a) .null)with
  |some s=>
   rw[n]at x;have r:=hZ (fe (p:=p) f n);simp only[Option.getD_some,Option.isSome_some]at x;clear h f m hi A n;go_enter func118,ntmps118
   go_wp2_with((go_at_call 121;refine(j.o _ _ (by exact cg cR) v.o).mono ?_;rintro e u ⟨rfl,d⟩;have g:=UD (Chg w u []) (((Chg.refl w []).alloc _).trans d);have H:=g.o.keeps c1;clear d))
   go_ret2
   refine⟨g.o, ?_⟩;rw[r.o];rfl
  |none=>
   rw[n]at x;simp only[Option.getD_none,Option.isSome_none]at x;have r:=hZ (fd (p:=p) f n);clear h f m hi A n;go_enter func118,ntmps118
   go_wp2_with(first
    |(go_at_call 121;refine(j.o _ _ (by exact cg cR) v.o).mono ?_;rintro e u ⟨rfl,d⟩;have g:=UD (Chg w u []) (((Chg.refl w []).alloc _).trans d);have H:=g.o.keeps c1;have c3:=(v.o.kept d).cell 0;simp only[Qa]at c3;clear d)
    |(go_at_call 69;refine(eZ _ _ _).mono ?_;rintro e B ⟨rfl,t⟩;have z:=UD (Chg w B []) (g.o.trans t);clear t))
   go_ret2
   refine⟨z.o, ?_⟩;rw[r.o];rfl
 .have m:eN ks a= -1:=by unfold eN;rw[Qs f]
  rw[m]at j;have r:=UD (E4 ks l p a= .no 4 p) (by unfold E4;rw[Qs f]);clear h f m;go_enter func118,ntmps118
  go_wp2_with(first
   |(go_at_call 121;refine(j.o _ _ (by exact cg cR) v.o).mono ?_;rintro e u ⟨rfl,d⟩;have g:=UD (Chg w u []) (((Chg.refl w []).alloc _).trans d);clear d)
   |(go_at_call 69;refine(eZ _ _ _).mono ?_;rintro e B ⟨rfl,t⟩;have z:=UD (Chg w B []) (g.o.trans t);clear t))
  go_ret2
  refine⟨z.o, ?_⟩;rw[r.o];rfl
theorem fS(ks:List BY)(l:List Tr)(vs:List Vl)(F:Nat->Prop)(z:Option Addr)(c:Nat)(p b:BY)(w:Wl)(o:Br w)(h:eR ks l vs F z w)(I:p.size<=1000)(G:b.size<=1000)(u:∀s,.text s∈l->s.size<=16777216):
  Cl prog 120 #[nS z ks.length c,nG p,nG b] w (eW (RL ks l p b) w):=by
 have i:=hZ (fi ks l vs F z c p b w h I G);have M:=hZ o
 cases a:E4 ks l p b with
 |no k q=>
  rw[a]at i;have m:=UD (RL ks l p b= .no k q) (by unfold RL;rw[a]);clear a o h u;go_enter func120,ntmps120
  go_wp2_with((go_at_call 118;refine i.o.mono ?_;rintro e C ⟨d,rfl⟩;have f:=hZ d;clear d;unfold eT))
  go_ret2
  refine⟨f.o, ?_⟩;rw[m.o];rfl
 |yes s=>
  rw[a]at i
  have J:s.size<=16777216:=u s (by
   unfold E4 at a;split at a
   .rename_i E
    split at a
    .rename_i N y
     injection a with a
     subst a;have H:=Dk (Cp.1 E);rw[List.getD_eq_getElem?_getD,Q9 (by rw[<-h.len];exact H)]at y;simp only[Option.getD_some]at y;rw[<-y];exact List.getElem_mem _
    .cases a
   .cases a)
  have j:=UD (∀r,Chg w r []->Cl prog 58 #[nG s] r (AU s r)) fun r K=>D8 s r (o.kept K) J
  unfold AU at j
  cases g:AD s with
  |some ts=>
   rw[g]at j;have m:=UD (RL ks l p b= .yes s) (by unfold RL;rw[a];simp only[g,Option.isSome_some,if_true]);clear a o h u g;go_enter func120,ntmps120
   go_wp2_with(first
    |(go_at_call 118;refine i.o.mono ?_;rintro e C ⟨d,rfl⟩;have f:=hZ d;clear d)
    |(go_at_call 58;refine(j.o _ f.o).mono ?_;rintro e A ⟨O,rfl,_,_,n⟩;have v:=UD (Chg w A []) (f.o.trans n);clear n))
   go_ret2
   refine⟨v.o, ?_⟩;rw[m.o];rfl
  |none=>
   rw[g]at j;have m:=UD (RL ks l p b= .no 171 (X1 p b)) (by unfold RL;rw[a];simp only[g,Option.isSome_none,Bool.false_eq_true,if_false]);clear a o h u g;go_enter func120,ntmps120
   go_wp2_with(first
    |(go_at_call 118;refine i.o.mono ?_;rintro e C ⟨d,rfl⟩;have f:=hZ d;clear d)
    |(go_at_call 58;refine(j.o _ f.o).mono ?_;rintro e A ⟨⟨t,x,rfl⟩,n⟩;have v:=UD (Chg w A []) (f.o.trans n);clear n)
    |(go_at_call 69;refine(eZ _ _ _).mono ?_;rintro e L ⟨rfl,B⟩;have D:=UD (Chg w L []) (v.o.trans B);clear B))
   go_ret2
   refine⟨D.o, ?_⟩;rw[m.o];rfl
end
section
open Go Go.Shelf Go.RowKit Go.Lib Tree Ptr
def dM(w:Wl):Prop:=∀m:Nat,m<6->w.cell? ⟨0,m,nN⟩=nM (nG (Ec (m+1)))
theorem dM.kept{w w':Wl}(h:dM w)(a:Chg w w' []):dM w':=fun m b=>a.keeps (h m b)
end
section
open _root_.Go.Proofs.Tryz
open Go Go.Shelf Go.RowKit Go.Lib Tree
def iI(w:Wl)(sv:Vl)(l:List Bq):Prop:=∃a c,sv= nS a l.length c/\∀i p,l[i]? =nM p->∃b o sk,a=nM ⟨b,o,nN⟩/\DX w sk p.steps/\∀j v,(BJ p sk)[j]? =nM v->w.cell? ⟨b,o+i*4+j,nN⟩=nM v
theorem iI.kept{w w':Wl}{sv:Vl}{l:List Bq}(h:iI w sv l)(d:Chg w w' []):iI w' sv l:=by
 obtain⟨a,c,e,h⟩:=h;refine⟨a,c,e,fun i p m=> ?_⟩;obtain⟨b,o,sk,f,g,k⟩:=h i p m;exact⟨b,o,sk,f,g.kept d,fun j v n=>d.keeps (k j v n)⟩
theorem iI.ofR{w:Wl}{sv:Vl}{l:List Bq}{xs:List Vl}(d:As w sv 4 l.length xs)(k:Cc w l xs):iI w sv l:=by
 obtain⟨a,c,rfl,_⟩:=d.form;refine⟨a,c,rfl,fun i p e=> ?_⟩;have n:0<l.length:=Nat.lt_of_le_of_lt (Nat.zero_le _) (Qc.1 e).1;obtain⟨b,o,rfl,m⟩:=d.base n ZM;obtain⟨sk,ys,f,g,h⟩:=k.get i p e;exact⟨b,o,sk,rfl,SL f g,fun j v q=>by rw[Nat.add_assoc];exact m _ v (h j v q)⟩
theorem iI.ofAt{w0 w:Wl}{sv:Vl}{l:List Bq}{xs:List Vl}{G:Nat->Prop}(h:EW w0 w l sv xs G):iI w sv l:=iI.ofR h.row h.ops.toIn
theorem jY(p:Bq)(c d:Vl)(w:Wl)(a:DX w c p.steps)(i:DX w d p.steps)(l:p.steps.length<=4294967296)(j:∀s∈p.steps,s.keys.length<=4294967296):
  Cl prog 18 #[nA (BJ p c).toArray,nA (BJ p d).toArray] w (BU true w):=by
 have g:=UD (∀b,Chg w b []->Cl prog 37 #[c,d,.func (.func 39) #[] #[]] b (BU true b)) fun b m=>Rf _ _ _ b (a.kept m) (i.kept m) l j
 obtain⟨h,c1,rfl,_⟩:=a;obtain⟨o,q,rfl,_⟩:=i;obtain⟨f,k⟩:=Ue p.steps.length
 rw[<-k]at g|-;have r:=UD (Ac ((w.alloc (nC (BJ p (nS h f c1)).toArray 42)).alloc (nC (BJ p (nS o f q)).toArray 42)) w.heap.size (BJ p (nS h f c1)) 42) ((Ac.new w _ _).alloc _);clear l k j;obtain⟨u,pa,t,v⟩:=p;unfold BJ at*
 dsimp only at*
 go_enter func18,ntmps18
 go_wp2_with((go_at_call 37;refine(g.o _ (by exact cg cR)).mono ?_;rintro e x ⟨rfl,a⟩;have n:=hZ a;clear a))
 go_ret
 exact⟨rfl,ct cR n.o⟩
theorem lj(l:List Bq)(I J:Vl)(w:Wl)(S:iI w I l)(T:iI w J l)(U:l.length<=4294967296)(C:∀p∈l,p.steps.length<=4294967296/\∀s∈p.steps,s.keys.length<=4294967296):
  Cl prog 17 #[I,J,.func (.func 18) #[] #[]] w (BU true w):=by
 obtain⟨a1,c1,rfl,y⟩:=S;obtain⟨a2,Q,rfl,z⟩:=T;have N:=hZ y;have O:=hZ z;have t:=hZ C;obtain⟨n,m⟩:=Ue l.length
 have ab:((n:Int) !=(n:Int))=false:=Zh
 have M:=hZ m;rw[<-m]at U|-;clear y z C m;go_enter func17,ntmps17
 go_wp2_with fail
 go_loopw [17] (fun r wr=>∃i:Nat,i<=n/\r= nI nX i/\Chg w wr []) (fun r _=>n-(intOf r).toNat)
 case atStart=>exact⟨0,Zj,rfl,Chg.refl _ _⟩
 case round=>
  obtain⟨i,hi,rfl,B⟩:=hrel;have a:=hZ B;clear B;by_cases aa:i<n
  .obtain⟨p,f⟩:∃s,l[i]? =nM s:=⟨_,Q9 (by have:=M.o;omega)⟩
   obtain⟨b,o,sk,rfl,F,D⟩:=N.o i p f;obtain⟨u,Z,K,rfl,G,E⟩:=O.o i p f;have k:=UD (∀g,Chg wr g []->Cl prog 18 #[nA (BJ p sk).toArray,nA (BJ p K).toArray] g (BU true g)) fun g h=>jY p sk K g (F.kept (a.o.trans h)) (G.kept (a.o.trans h)) (t.o p (Qi f)).1 (t.o p (Qi f)).2
   obtain⟨V,X,rfl,_⟩:=F;obtain⟨W,Y,rfl,_⟩:=G;have c:∀j v,(BJ p (nS V p.steps.length X))[j]? =nM v->wr.cell? ⟨b,o+i*4+j,nN⟩=nM v:=fun j v q=>a.o.keeps (D j v q)
   have d:∀j v,(BJ p (nS W p.steps.length Y))[j]? =nM v->wr.cell? ⟨u,Z+i*4+j,nN⟩=nM v:=fun j v q=>a.o.keeps (E j v q)
   have P:=c 0 _ rfl;have c1:=c 1 _ rfl;have Q:=c 2 _ rfl;have c3:=c 3 _ rfl;have x:=d 0 _ rfl;have d1:=d 1 _ rfl;have d2:=d 2 _ rfl;have R:=d 3 _ rfl;rw[Nat.add_zero]at P x;have lb:u<wr.heap.size:=World.block_lt_of_cell? wr _ x;obtain⟨sl,H⟩:=Ue p.steps.length
   rw[<-H]at k c3 R;clear f D E c d H;obtain⟨ki,pa,fr,st⟩:=p;unfold BJ at k
   dsimp only at*
   go_wp2_with((go_at_call 18;refine(k.o _ (by exact cg cR)).mono ?_;rintro e w3 ⟨rfl,A⟩;have L:=UD (Chg wr w3 []) (ct cR A);clear A))
   go_roundw
   case rel=>exact⟨i+1,Zj,by go_num,Chg.trans (b:=_) a.o L.o⟩
   case measure=>simp[intOf];omega
  .go_wp2_with fail
   go_ret
   exact⟨rfl,a.o⟩
end
section
open _root_.Go.Proofs.Tryz
open Go Go.RowKit Tree Ptr
theorem fR(s:BY)(ks:List BY)(b o c:Nat)(w:Wl)(D:ks.length<=4294967296)(p:∀i k,ks[i]? =nM k->w.cell? ⟨b,o+i,nN⟩=nM (nG k)):
  Cl prog 119 #[nS (nM ⟨b,o,nN⟩) ks.length c,nG s] w fun e w'=>e= nR (nI nX (eN ks s))/\Chg w w' []:=by
 have t:=hZ p;clear p;go_enter func119,ntmps119
 go_wp2_with fail
 go_loopw [8] (fun m wr=>∃i:Nat,i<=ks.length/\m= nI nX i/\w=wr/\∀j k,j<i->ks[j]? =nM k->k≠s) (fun m _=>ks.length-(intOf m).toNat)
 case atStart=>exact⟨0,Zj,rfl,rfl,fun j k h=>absurd h (Nat.not_lt_zero j)⟩
 case round=>
  obtain⟨i,B,rfl,rfl,r⟩:=hrel;have g:=hZ r;clear r;by_cases z:i<ks.length
  .obtain⟨k,l⟩:∃k,ks[i]? =nM k:=⟨_,Q9 z⟩
   have A:=t.o i k l;have n:=hZ l;clear l;by_cases a:s=k
   .have x:(s.toList==k.toList)=true:=by rw[a];simp
    have f:=hZ a;clear a;go_wp2_with fail
    go_ret
    exact⟨by rw[eO (f.o▸n.o) g.o];rfl,Chg.refl _ _⟩
   .have v:¬s.toList=k.toList:=fun e=>a (by rw[Lib.toList_data,Lib.toList_data]at e;exact ByteArray.ext (Array.toList_inj.1 e))
    have x:(s.toList==k.toList)=false:=by simpa using v
    have f:=hZ a;clear a;go_wp2_with fail
    go_roundw
    case rel=>
     refine⟨i+1,Zj,by go_num,trivial,fun j q C d=> ?_⟩;by_cases y:j=i
     .subst y
      have u:=n.o;rw[u]at d
      injection d with d
      rw[<-d];exact fun e=>f.o e.symm
     .exact g.o j q Zj d
    case measure=>simp[intOf];omega
  .obtain rfl:i=ks.length:=by omega
   go_wp2_with fail
   go_ret
   exact⟨by rw[eL g.o];rfl,Chg.refl _ _⟩
def fG:List BY:=[Ec 1,Ec 2,Ec 3,Ec 4,Ec 5,Ec 6]
theorem fP(s:BY):1+eN fG s=(Ob s:Int):=by
 unfold Ob;split
 .rename_i h;subst h;decide+kernel
 .rename_i b
  split
  .rename_i h;subst h;decide+kernel
  .rename_i c
   split
   .rename_i h;subst h;decide+kernel
   .rename_i d
    split
    .rename_i h;subst h;decide+kernel
    .rename_i f
     split
     .rename_i h;subst h;decide+kernel
     .rename_i g
      split
      .rename_i h;subst h;decide+kernel
      .rename_i i
       rw[eL]
       .rfl
       .intro j k _ l e
        subst e;have a:=Qi l;simp only[fG,Qh,List.not_mem_nil,or_false]at a
        rcases a with h|h|h|h|h|h
        .exact b h
        .exact c h
        .exact d h
        .exact f h
        .exact g h
        .exact i h
theorem gg(s:BY):Ob s<=6:=by
 unfold Ob
 repeat' split
 all_goals omega
theorem fQ{w:Wl}(h:dM w):∀i k,fG[i]? =nM k->w.cell? ⟨0,0+i,nN⟩=nM (nG k):=by
 intro i k a;have hi:i<6:=(Qc.1 a).1;rw[Nat.zero_add,h i hi];have:i=0\/i=1\/i=2\/i=3\/i=4\/i=5:=Zj
 rcases this with rfl|rfl|rfl|rfl|rfl|rfl<;>(simp[fG]at a;rw[<-a])
end
section
open _root_.Go.Proofs.Tryz
open Go Go.Shelf Go.RowKit Go.Lib Tree Ptr
theorem gn{ks:List BY}{l:List Tr}{p:BY}{o:CW}(h:Xi ks l p= .yes o):
  ∃s,E4 ks l p SB= .yes s/\Ob s≠0/\o.kind=Ob s/\RL ks l p Fj= .yes o.path/\(AO (Ob s)=true->RL ks l p Oa= .yes o.frm)/\(AO (Ob s)=false->o.frm=Dz)/\
   (AN (Ob s)=true->C4 ks SZ=true/\o.steps=Ai (l.getD (A5 ks SZ) .null))/\(AN (Ob s)=false->o.steps=[]):=by
 unfold Xi at h
 cases g:E4 ks l p SB with
 |no e q=>rw[g]at h;cases h
 |yes s=>
  rw[g]at h;simp only at h;split at h
  .cases h
  .rename_i k
   refine⟨s,rfl,k, ?_⟩
   cases i:RL ks l p Fj with
   |no e q=>rw[i]at h;cases h
   |yes m=>
    rw[i]at h;simp only at h
    cases a:(if AO (Ob s)=true then RL ks l p Oa else .yes Dz)with
    |no e q=>rw[a]at h;cases h
    |yes f=>
     rw[a]at h;simp only at h
     have b:(AO (Ob s)=true->RL ks l p Oa= .yes f)/\(AO (Ob s)=false->f=Dz):=by
      constructor
      .intro d;rw[Qr d]at a;exact a
      .intro d;rw[Qs (by rw[d];simp)]at a;injection a with a;exact a.symm
     split at h
     .rename_i c
      split at h
      .rename_i j
       injection h with h
       subst h;exact⟨rfl,rfl,b.1,b.2,fun _=>⟨j,rfl⟩,fun e=>by rw[e]at c;cases c⟩
      .cases h
     .rename_i c
      injection h with h
      subst h;exact⟨rfl,rfl,b.1,b.2,fun e=>absurd e c,fun _=>rfl⟩
theorem fY{l:List Tr}(h:∀u∈l,Bt u):∀s,.text s∈l->s.size<=16777216:=fun s a=>by
 have:=(Ar (h _ a).fits).2.1;simp only[Ag]at this;omega
def fV(o:Bq)(w:Wl)(e:Ending)(w':Wl):Prop:=
 ∃sv ys G,e= nR (nT #[nA (BJ o sv).toArray,.nilIface])/\As w' sv 6 o.steps.length ys/\SE G sv/\Cr w' G o.steps ys/\(∀b,G b->w.heap.size<=b/\b<w'.heap.size)/\Chg w w' []
def gj:List Vl:=[nI nX 0,nG ⟨#[]⟩,nG ⟨#[]⟩,nS nN 0 0]
theorem fU{w w2 d f:Wl}{o:CW}(h:Chg w d [])(j:Chg d f [w2.heap.size,w.heap.size])(l:w.heap.size<=w2.heap.size)(a:o.steps=[]):
  fV o.toI w (nR (nT #[nA (BJ o.toI (nS nN 0 0)).toArray,.nilIface])) f:=
 ⟨nS nN 0 0,[],fun _=>False,rfl,by unfold CW.toI;rw[a];exact⟨nN,0,rfl,Q8 _,rfl,fun i v k=>by simp at k⟩,(fun b o n c e=>by cases e),by unfold CW.toI;rw[a];exact rfl,(fun b (g:False)=>g.elim),h.fresh j (fun i hi=>by simp at hi;omega)⟩
theorem gi(ks:List BY)(l:List Tr)(vs:List Vl)(F:Nat->Prop)(v:Option Addr)(c:Nat)(p:BY)(o:CW)(w:Wl)(hL:Br w)(ag:dM w)(h:eR ks l vs F v w)(Q:p.size<=1000)(hs:∀s,.text s∈l->s.size<=16777216)(ho:Xi ks l p= .yes o)(H:AN o.kind=false):
  Cl prog 71 #[nS v ks.length c,nG p] w (fV o.toI w):=by
 obtain⟨s,i,f,d,g,m,O,h7,P⟩:=gn ho;rw[d]at H;have ah:=gg s;have hq:=fP s;obtain⟨k,hk⟩:=Ue (Ob s)
 rw[<-hk]at f d m O P H ah hq;have eo:o=⟨k,o.path,o.frm,[]⟩:=by cases o;simp only at d P|-;rw[d,P H]
 obtain⟨x,ab⟩:=Ue o.path
 obtain⟨N,aa⟩:=Ue o.frm
 rw[<-ab,<-aa]at eo;rw[<-ab]at g;rw[<-aa]at m O;subst eo;clear ab aa d P ho;have an:IntKind.i64.wrap (1+eN fG s)=(k:Int):=by rw[hq];exact IntWalk.i64_in _ ⟨Zj,Zj⟩
 obtain⟨q,ad⟩:=Ue (eN fG s)
 rw[<-ad]at an;have V:=UD (∀a,Chg w a []->Cl prog 118 #[nS v ks.length c,nG p,nG SB] a (eW (.yes s) a)) fun a r=>by rw[<-i];exact fi ks l vs F v c p SB a (h.kept r) Q ZM
 have W:=UD (∀a,Chg w a []->Cl prog 120 #[nS v ks.length c,nG p,nG Fj] a (eW (.yes x) a)) fun a r=>by rw[<-g];exact fS ks l vs F v c p Fj a (hL.kept r) (h.kept r) Q ZM hs
 have K:=UD (AO k=true->∀a,Chg w a []->Cl prog 120 #[nS v ks.length c,nG p,nG Oa] a (eW (.yes N) a)) fun u a r=>by rw[<-m u];exact fS ks l vs F v c p Oa a (hL.kept r) (h.kept r) Q ZM hs
 have HI:=UD (∀Z a,Chg w a []->Cl prog 119 #[nS (nM ⟨0,0,nN⟩) 6 Z,nG s] a fun e w'=>e= nR (nI nX q)/\Chg a w' []) fun Z a r=>by rw[ad];exact fR s fG _ 0 Z a ZM (fQ (ag.kept r))
 have M:=UD (∀a,Cl prog 90 #[nI nX k] a fun e w'=>e= nR (nT #[.bool (AO k),.bool false,.bool true])/\Chg a w' []) fun a=>by
  have:=Jm k a;rw[H,show CP k=true by unfold CP;simp;omega]at this;exact this
 obtain⟨n,hn⟩:=Ue ks.length
 rw[<-hn]at V W K|-;have S:=hZ O;clear h hL ag hs i f g m O h7 hq ad H ah hn Q hk
 cases u:AO k with
 |false=>
  rw[u]at M;have am:=S.o u;subst am;clear K S u;go_enter func71,ntmps71
  go_wp2_with(first
   |(go_at_call 118;refine(V.o _ (by exact cg cR)).mono ?_;rintro e I ⟨i,rfl⟩;have A:=UD (Chg w I []) (ct cR i);have X:=UD (Ac I w.heap.size gj 42) ((Ac.new w _ _).kept i);clear i)
   |(go_at_call 119;refine(HI.o _ _ A.o).mono ?_;rintro e w2 ⟨rfl,f⟩;have ai:=hZ f;have j:=hZ (A.o.trans f);have C:=hZ (X.o.kept f);have L:=UD (w.heap.size≠w2.heap.size) (by have:=C.o.lt;omega);clear f)
   |(go_at_call 90;refine(M.o _).mono ?_;rintro e J ⟨rfl,d⟩;have B:=UD (Chg w2 J []) (ct cR d);have Y:=UD (Ac J w2.heap.size [nI nX k,nG ⟨#[]⟩,nG ⟨#[]⟩,nS nN 0 0] 42) ((Ac.new w2 _ _).kept d);clear d)
   |(go_at_call 120;refine(W.o _ (j.o.trans B.o)).mono ?_;rintro e z ⟨g,rfl⟩;have y:=hZ (B.o.trans g);have D:=hZ (Y.o.kept g);obtain⟨x1,x2,x3,x4,x5,x6⟩:=Ac.cells4 D.o;clear g)
   |(refine Bp rfl _ _ rfl w2.heap.size ZN 42 (BJ (CW.toI ⟨k,x,Dz,[]⟩) (nS nN 0 0)) (by exact(D.o.set 1 (nG x))) _ underlying42 rfl A0 ?_)
   |(refine Ae rfl _ _ _ rfl w.heap.size (BJ (CW.toI ⟨k,x,Dz,[]⟩) (nS nN 0 0)) ZN ZN 42 gj (by exact(C.o.kept y.o).set_other _ _ L.o.symm) A0 rfl (Dx _ _ _ _) ?_;intro w6 ae E G;have T:=hZ E;have U:=UD (Chg z w6 [w2.heap.size,w.heap.size]) (Chg.trans (b:=_) ((Chg.refl z _).setCell _ _ Zh) (G.mono fun _ _ t=>by simp at t;simp[t]));clear ae E G))
  refine bodyPost_ret (Gn rfl _ _ w.heap.size 42 _ _ rfl T.o underlying42 rfl A0) rfl ?_;exact fU (w2:=w2) (j.o.trans y.o) U.o j.o.size rfl
 |true=>
  rw[u]at M;have ak:=hZ (K.o u);clear K S u;go_enter func71,ntmps71
  go_wp2_with(first
   |(go_at_call 120;have ao:=y.o;refine(ak.o _ ((j.o.trans y.o).setCell _ _ (by have:=j.o.size;simp;omega))).mono ?_;rintro e R ⟨m,rfl⟩;have af:=UD (Ac R w2.heap.size [nI nX k,nG x,nG ⟨#[]⟩,nS nN 0 0] 42) ((D.o.set 1 (nG x)).kept m);have aj:=UD (Chg z R [w2.heap.size]) (Chg.trans (b:=_) ((Chg.refl z _).setCell _ _ Zh) (m.none _));have al:=UD (Ac R w.heap.size gj 42) (((C.o.kept y.o).set_other _ _ L.o.symm).kept m);clear x1 x2 x3 x4 x5 x6;obtain⟨x1,x2,x3,x4,x5,x6⟩:=Ac.cells4 af.o;clear m)
   |(go_at_call 118;refine(V.o _ (by exact cg cR)).mono ?_;rintro e I ⟨i,rfl⟩;have A:=UD (Chg w I []) (ct cR i);have X:=UD (Ac I w.heap.size gj 42) ((Ac.new w _ _).kept i);clear i)
   |(go_at_call 119;refine(HI.o _ _ A.o).mono ?_;rintro e w2 ⟨rfl,f⟩;have ai:=hZ f;have j:=hZ (A.o.trans f);have C:=hZ (X.o.kept f);have L:=UD (w.heap.size≠w2.heap.size) (by have:=C.o.lt;omega);clear f)
   |(go_at_call 90;refine(M.o _).mono ?_;rintro e J ⟨rfl,d⟩;have B:=UD (Chg w2 J []) (ct cR d);have Y:=UD (Ac J w2.heap.size [nI nX k,nG ⟨#[]⟩,nG ⟨#[]⟩,nS nN 0 0] 42) ((Ac.new w2 _ _).kept d);clear d)
   |(go_at_call 120;refine(W.o _ (j.o.trans B.o)).mono ?_;rintro e z ⟨g,rfl⟩;have y:=hZ (B.o.trans g);have D:=hZ (Y.o.kept g);obtain⟨x1,x2,x3,x4,x5,x6⟩:=Ac.cells4 D.o;clear g)
   |(refine Bp rfl _ _ rfl w2.heap.size ZN 42 (BJ (CW.toI ⟨k,x,N,[]⟩) (nS nN 0 0)) (by exact(af.o.set 2 (nG N))) _ underlying42 rfl A0 ?_)
   |(refine Ae rfl _ _ _ rfl w.heap.size (BJ (CW.toI ⟨k,x,N,[]⟩) (nS nN 0 0)) ZN ZN 42 gj (by exact al.o.set_other _ _ L.o.symm) A0 rfl (Dx _ _ _ _) ?_;intro w6 ae E G;have T:=hZ E;have U:=UD (Chg z w6 [w2.heap.size,w.heap.size]) (Chg.trans (b:=_) (aj.o.mono (fun _ _ t=>by simp at t;simp[t])) (Chg.trans (b:=_) ((Chg.refl R _).setCell _ _ Zh) (G.mono fun _ _ t=>by simp at t;simp[t])));clear ae E G))
  refine bodyPost_ret (Gn rfl _ _ w.heap.size 42 _ _ rfl T.o underlying42 rfl A0) rfl ?_;exact fU (w2:=w2) (j.o.trans y.o) U.o j.o.size rfl
theorem gp(ks:List BY)(l:List Tr)(vs:List Vl)(F:Nat->Prop)(la:Option Addr)(c:Nat)(p:BY)(o:CW)(w:Wl)(hL:Br w)(ar:dM w)(h:eR ks l vs F la w)(hp:p.size<=1000)(Z:∀u∈l,Bt u)(ho:Xi ks l p= .yes o)(E:AN o.kind=true):
  Cl prog 71 #[nS la ks.length c,nG p] w (fV o.toI w):=by
 obtain⟨s,t,r,m,z,C,H,h7,h8⟩:=gn ho;rw[m]at E;have Q:=Nd E;obtain⟨hh,P⟩:=h7 E;have ad:=H Q;have hs:=fY Z;have aw:=gg s;have A:=fP s;obtain⟨b,oa,ti,xi,rfl,aa,c1,af⟩:=h.at_ hh;have av:eN ks SZ=(A5 ks SZ:Int):=by unfold eN;rw[Qr hh]
 have ag:l.getD (A5 ks SZ) .null∈l:=by
  rw[List.getD_eq_getElem?_getD,Q9 (by rw[<-h.len];exact aa),Option.getD_some];exact List.getElem_mem _
 obtain⟨x,j⟩:=Ue (l.getD (A5 ks SZ) .null)
 rw[<-j]at af ag P;have O:=Z x ag;obtain⟨k,hk⟩:=Ue (Ob s)
 rw[<-hk]at r m E Q aw A;have eo:o=⟨k,o.path,Dz,Ai x⟩:=by cases o;simp only at m P ad|-;rw[m,P,ad]
 obtain⟨I,ax⟩:=Ue o.path
 rw[<-ax]at eo z;subst eo;have aM:IntKind.i64.wrap (1+eN fG s)=(k:Int):=by rw[A];exact IntWalk.i64_in _ ⟨Zj,Zj⟩
 obtain⟨q,ae⟩:=Ue (eN fG s)
 rw[<-ae]at aM;have HM:=UD (∀a,Chg w a []->Cl prog 118 #[nS (nM ⟨b,oa,nN⟩) ks.length c,nG p,nG SB] a (eW (.yes s) a)) fun a j=>by rw[<-t];exact fi ks l vs F _ c p SB a (h.kept j) hp ZM
 have HP:=UD (∀a,Chg w a []->Cl prog 120 #[nS (nM ⟨b,oa,nN⟩) ks.length c,nG p,nG Fj] a (eW (.yes I) a)) fun a j=>by rw[<-z];exact fS ks l vs F _ c p Fj a (hL.kept j) (h.kept j) hp ZM hs
 have HI:=UD (∀V a,Chg w a []->Cl prog 119 #[nS (nM ⟨0,0,nN⟩) 6 V,nG s] a fun e w'=>e= nR (nI nX q)/\Chg a w' []) fun V a j=>by rw[ae];exact fR s fG _ 0 V a ZM (fQ (ar.kept j))
 have HU:=UD (∀a,Cl prog 90 #[nI nX k] a fun e w'=>e= nR (nT #[.bool false,.bool true,.bool true])/\Chg a w' []) fun a=>by
  have:=Jm k a;rw[E,Q,show CP k=true by unfold CP;simp;omega]at this;exact this
 have T:=UD (∀a,Chg w a []->Cl prog 121 #[nS (nM ⟨b,oa,nN⟩) ks.length c,.func (.func 122) #[] #[]] a fun e w'=>e= nR (nI nX (A5 ks SZ:Int))/\Chg a w' []) fun a j=>by
  rw[<-av];exact eV 122 #[] SZ ks vs F _ c a (by rw[h.len,h.kids.length]) (by have:=h.many;omega) (h.kept j).row h.boxed (fun _ _=>Yb) fun wy k ti xi d=>eQ k ti xi wy
 have aE:=UD (∀a,Chg w a []->Cl prog 76 #[nF ti xi] a (SF x a)) fun a hw=>ab _ x F _ a (Q8 _) (Ar O.fits).1 (Hm.kept (hw.keepsF h.lt) (fun _ h=>h) _ _ af) (fun y d=>Q6 (h.lt y d) hw.size)
 have aI:=UD (∀a v bs,AP a x v bs->∃f args,(callMethod v EB #[nS nN 0 0]).run prog a= .ok (.enter f args) a/\Cl prog f args a fun e w'=>∃sv,e= nR sv/\LN x a sv w') fun a v bs h=>Le O.good O.fits h
 obtain⟨n,hn⟩:=Ue ks.length
 obtain⟨pl,ay⟩:=Ue (A5 ks SZ)
 rw[<-hn]at HM HP T aa|-;rw[<-ay]at T aa c1;have aA:=hZ c1;clear h hL ar hs t r m z C H h7 h8 A ae E Q aw hn hp hk ho hh P ad c1 af av ag j O ay ax Z;go_enter func71,ntmps71
 go_wp2_with(first
  |(go_at_call 118;refine(HM.o _ (by exact cg cR)).mono ?_;rintro e w1 ⟨t,rfl⟩;have H1:=UD (Chg w w1 []) (ct cR t);have aF:=UD (Ac w1 w.heap.size gj 42) ((Ac.new w _ _).kept t);clear t)
  |(go_at_call 119;refine(HI.o _ _ H1.o).mono ?_;rintro e w2 ⟨rfl,r⟩;have aO:=hZ r;have B:=hZ (H1.o.trans r);have U:=hZ (aF.o.kept r);have al:=UD (w.heap.size≠w2.heap.size) (by have:=U.o.lt;omega);clear r)
  |(go_at_call 90;refine(HU.o _).mono ?_;rintro e w3 ⟨rfl,m⟩;have ah:=UD (Chg w2 w3 []) (ct cR m);have aJ:=UD (Ac w3 w2.heap.size [nI nX k,nG ⟨#[]⟩,nG ⟨#[]⟩,nS nN 0 0] 42) ((Ac.new w2 _ _).kept m);clear m)
  |(go_at_call 120;refine(HP.o _ (B.o.trans ah.o)).mono ?_;rintro e w4 ⟨z,rfl⟩;have R:=hZ (ah.o.trans z);have an:=hZ (aJ.o.kept z);obtain⟨x1,x2,x3,x4,x5,x6⟩:=Ac.cells4 an.o;clear z)
  |(go_at_call 121;refine(T.o _ ((B.o.trans R.o).setCell _ _ (by have:=B.o.size;simp;omega))).mono ?_;rintro e L ⟨rfl,C⟩;have ao:=UD (Ac L w2.heap.size [nI nX k,nG I,nG ⟨#[]⟩,nS nN 0 0] 42) ((an.o.set 1 (nG I)).kept C);have aG:=UD (Ac L w.heap.size gj 42) (((U.o.kept R.o).set_other _ _ al.o.symm).kept C);have M:=UD (Chg w L []) (((B.o.trans R.o).setCell _ _ (by have:=B.o.size;simp;omega)).trans C);have c5:=M.o.keeps aA.o;clear x1 x2 x3 x4 x5 x6 C)
  |(go_at_call 76;refine(aE.o L M.o).mono ?_;rintro e w6 ⟨v,bs,rfl,A,_,H⟩;obtain⟨tv,xv,rfl⟩:=A.iface;obtain⟨f,args,m1,d1⟩:=aI.o w6 _ bs A;have aD:=hZ m1;have aB:=hZ d1;have ai:=hZ H;clear A m1 d1 H c5)
  |(refine Ft rfl _ _ _ _ rfl (nF tv xv) (nS nN 0 0) ZN ZN f args aD.o _ aB.o ?_;rintro e w7 ⟨sv,rfl,Y⟩;refine⟨_,rfl, ?_⟩;obtain⟨G,xs,W,g2,g3,g4⟩:=Y.ex;obtain⟨J,K,rfl⟩:=W.slots;have ak:=hZ W;have am:=hZ g2;have aC:=hZ g3;have aj:=hZ g4;have S:=hZ (ai.o.trans Y.chg);have aK:=UD (L.heap.size<=w6.heap.size) ai.o.size;have ap:=hZ (ao.o.kept S.o);have aH:=hZ (aG.o.kept S.o);obtain⟨x1,x2,x3,x4,x5,x6⟩:=Ac.cells4 ap.o;clear Y W g2 g3 g4)
  |(refine Bp rfl _ _ rfl w2.heap.size ZN 42 (BJ (CW.toI ⟨k,I,Dz,Ai x⟩) (nS J (Ag x).nodes K)) (by exact(ap.o.set 3 (nS J (Ag x).nodes K))) _ underlying42 rfl A0 ?_)
  |(refine Ae rfl _ _ _ rfl w.heap.size (BJ (CW.toI ⟨k,I,Dz,Ai x⟩) (nS J (Ag x).nodes K)) ZN ZN 42 gj (by exact aH.o.set_other _ _ al.o.symm) A0 rfl (Dx _ _ _ _) ?_;intro w9 aN aq au;have az:=hZ aq;have N:=UD (Chg w7 w9 [w2.heap.size,w.heap.size]) (Chg.trans (b:=_) ((Chg.refl w7 _).setCell _ _ Zh) (au.mono fun _ _ D=>by simp at D;simp[D]));clear aN aq au))
 refine bodyPost_ret (Gn rfl _ _ w.heap.size 42 _ _ rfl az.o underlying42 rfl A0) rfl ?_;have z2:=B.o.size;have l2:=ao.o.lt;have l1:=U.o.lt;have z6:=aK.o;have z9:=N.o.size;have X:∀y,G y->w6.heap.size<=y/\y<w7.heap.size:=aC.o
 have aL:=ak.o.kept N.o (fun g hg D=>by have:=(aj.o g hg).1;simp at D;omega);refine⟨nS J (Ag x).nodes K,xs,fun y=>G y\/(Vl.slice J (Ag x).nodes K).ownBlock=nM y,rfl, ?_,fun b o n c e=> ?_,Cr.kept (N.o.keepsF (fun y d=>(X y d).2) (fun y D d=>by have:=(X y d).1;simp at D;omega)) (fun _ h=> .inl h) am.o,fun y d=> ?_,(M.o.trans S.o).fresh N.o (fun i hi=>by simp at hi;omega)⟩
 .show As w9 _ 6 (MW x).length xs
  rw[Ju];exact aL.rowC (by rw[am.o.toR.length,Ju])
 .injection e with e1 _ _
  exact .inr (by rw[e1];rfl)
 .have z5:=M.o.size
  rcases d with d|d
  .have:=X y d;omega
  .have t:=(aj.o y d).1;have r:=ak.o.lt d;omega
theorem gq(ks:List BY)(l:List Tr)(vs:List Vl)(F:Nat->Prop)(a:Option Addr)(c:Nat)(p:BY)(o:CW)(w:Wl)(b:Br w)(d:dM w)(h:eR ks l vs F a w)(g:p.size<=1000)(e:∀u∈l,Bt u)(f:Xi ks l p= .yes o):
  Cl prog 71 #[nS a ks.length c,nG p] w (fV o.toI w):=by
 cases i:AN o.kind with
 |true=>exact gp ks l vs F a c p o w b d h g e f i
 |false=>exact gi ks l vs F a c p o w b d h g (fY e) f i
def k9(k:Nat)(q:BY)(w:Wl)(e:Ending)(w':Wl):Prop:=e= nR (nT #[nA gj.toArray,eT k q])/\Chg w w' []
theorem kU:∀u∈gj,u.oneCell'=true:=Dx ⟨0,⟨#[]⟩,⟨#[]⟩,[]⟩ nN 0 0
structure kZ(ks:List BY)(l:List Tr)(la:Option Addr)(c:Nat)(p:BY)(w:Wl):Prop where
 mem:∀wx,Chg w wx []->Cl prog 118 #[nS la ks.length c,nG p,nG SB] wx (eW (E4 ks l p SB) wx)
 path:∀key,key.size<=1000->∀wx,Chg w wx []->Cl prog 120 #[nS la ks.length c,nG p,nG key] wx (eW (RL ks l p key) wx)
 vidx:∀wx,Chg w wx []->Cl prog 121 #[nS la ks.length c,.func (.func 122) #[] #[]] wx fun e w'=>e= nR (nI nX (eN ks SZ))/\Chg wx w' []
 widx:∀s cc wx,Chg w wx []->Cl prog 119 #[nS (nM ⟨0,0,nN⟩) 6 cc,nG s] wx fun e w'=>e= nR (nI nX (eN fG s))/\Chg wx w' []
theorem lQ{ks:List BY}{l:List Tr}{vs:List Vl}{F:Nat->Prop}{d:Option Addr}{c:Nat}{p:BY}{w:Wl}(g:Br w)(i:dM w)(h:eR ks l vs F d w)(e:p.size<=1000)(m:∀s,.text s∈l->s.size<=16777216):kZ ks l d c p w:=
 ⟨fun b a=>fi ks l vs F d c p SB b (h.kept a) e ZM,fun n j b a=>fS ks l vs F d c p n b (g.kept a) (h.kept a) e j m,fun b a=>eV 122 #[] SZ ks vs F d c b (by rw[h.len,h.kids.length]) (by have:=h.many;omega) (h.kept a).row h.boxed (fun _ _=>Yb) fun q k o r t=>eQ k o r q,fun s f b a=>fR s fG _ 0 f b ZM (fQ (i.kept a))⟩
theorem mp{ks:List BY}{l:List Tr}{m:Option Addr}{c:Nat}{p:BY}{w:Wl}(h:kZ ks l m c p w){k:Nat}{q:BY}(g:E4 ks l p SB= .no k q):
  Cl prog 71 #[nS m ks.length c,nG p] w (k9 k q w):=by
 have a:=hZ h.mem;rw[g]at a;obtain⟨n,j⟩:=Ue ks.length
 rw[<-j]at a|-;clear h g j;go_enter func71,ntmps71
 go_wp2_with(first
  |(go_at_call 118;refine(a.o _ (by exact cg cR)).mono ?_;rintro e o ⟨b,rfl⟩;unfold eT;have r:=UD (Chg w o []) (ct cR b);have u:=UD (Ac o w.heap.size gj 42) ((Ac.new w _ _).kept b);clear b)
  |(refine Ae rfl _ _ _ rfl w.heap.size gj ZN ZN 42 gj (by exact u.o) A0 rfl kU ?_;intro x v d f;have s:=hZ d;have t:=hZ f;clear v d f))
 refine bodyPost_ret (Gn rfl _ _ w.heap.size 42 _ _ rfl s.o underlying42 rfl A0) rfl ?_;exact⟨rfl,r.o.fresh t.o (fun i hi=>by simp at hi;omega)⟩
theorem lX{ks:List BY}{l:List Tr}{H:Option Addr}{c:Nat}{p:BY}{w:Wl}(h:kZ ks l H c p w)(X:p.size<=1000){s:BY}(D:E4 ks l p SB= .yes s)(y:Ob s=0):
  Cl prog 71 #[nS H ks.length c,nG p] w (k9 170 (X1 p SB) w):=by
 have C:=gg s;have m:=fP s;have b:=hZ h.mem;rw[D]at b;have u:=hZ (h.path Fj ZM);have r:=hZ (h.path Oa ZM);have x:=hZ h.vidx;have t:=hZ (h.widx s);have G:=Jm (Ob s);obtain⟨k,B⟩:=Ue (Ob s)
 rw[<-B]at C m G y;have S:IntKind.i64.wrap (1+eN fG s)=(k:Int):=by rw[m];exact IntWalk.i64_in _ ⟨Zj,Zj⟩
 obtain⟨Y,F⟩:=Ue (eN fG s)
 rw[<-F]at S t;obtain⟨n,E⟩:=Ue ks.length
 rw[<-E]at b u r x|-;subst y;have R:=UD (∀a,Cl prog 90 #[nI nX 0] a fun e w'=>e= nR (nT #[.bool false,.bool false,.bool false])/\Chg a w' []) fun a=>Jm 0 a
 have N:=UD (X1 p SB=p++⟨#[47,111,112]⟩) (by unfold X1;rw[ByteArray.append_assoc];rfl);rw[N.o];clear h D E F C m G B u r x;go_enter func71,ntmps71
 go_wp2_with(first
  |(go_at_call 118;refine(b.o _ (by exact cg cR)).mono ?_;rintro e I ⟨d,rfl⟩;have o:=UD (Chg w I []) (ct cR d);have P:=UD (Ac I w.heap.size gj 42) ((Ac.new w _ _).kept d);clear d)
  |(go_at_call 119;refine(t.o _ _ o.o).mono ?_;rintro e w2 ⟨rfl,f⟩;have L:=hZ (o.o.trans f);have v:=hZ (P.o.kept f);have V:=UD (w.heap.size≠w2.heap.size) (by have:=v.o.lt;omega);clear f)
  |(go_at_call 90;refine(R.o _).mono ?_;rintro e J ⟨rfl,g⟩;have q:=UD (Chg w2 J []) (ct cR g);have W:=UD (Ac J w2.heap.size [nI nX 0,nG ⟨#[]⟩,nG ⟨#[]⟩,nS nN 0 0] 42) ((Ac.new w2 _ _).kept g);clear g)
  |(go_at_call 69;refine(eZ _ _ _).mono ?_;rintro e U ⟨rfl,j⟩;unfold eT;have K:=UD (Chg w U []) ((L.o.trans q.o).trans j);have Q:=hZ ((v.o.kept q.o).kept j);clear j)
  |(refine Ae rfl _ _ _ rfl w.heap.size gj ZN ZN 42 gj (by exact Q.o) A0 rfl kU ?_;intro Z T z A;have M:=hZ z;have O:=hZ A;clear T z A))
 refine bodyPost_ret (Gn rfl _ _ w.heap.size 42 _ _ rfl M.o underlying42 rfl A0) rfl ?_;exact⟨rfl,K.o.fresh O.o (fun i hi=>by simp at hi;omega)⟩
theorem lY{ks:List BY}{l:List Tr}{L:Option Addr}{c:Nat}{p:BY}{w:Wl}(h:kZ ks l L c p w)(hp:p.size<=1000){s:BY}(E:E4 ks l p SB= .yes s)(Z:Ob s≠0){M:Nat}{q:BY}(G:RL ks l p Fj= .no M q):
  Cl prog 71 #[nS L ks.length c,nG p] w (k9 M q w):=by
 have D:=gg s;have t:=fP s;have g:=hZ h.mem;rw[E]at g;have j:=hZ (h.path Fj ZM);have v:=hZ (h.path Oa ZM);have z:=hZ h.vidx;have x:=hZ (h.widx s);have I:=Jm (Ob s);obtain⟨k,C⟩:=Ue (Ob s)
 rw[<-C]at D t I Z;have aa:IntKind.i64.wrap (1+eN fG s)=(k:Int):=by rw[t];exact IntWalk.i64_in _ ⟨Zj,Zj⟩
 obtain⟨q2,H⟩:=Ue (eN fG s)
 rw[<-H]at aa x;obtain⟨n,F⟩:=Ue ks.length
 rw[<-F]at g j v z|-;rw[G]at j;obtain⟨uf,J⟩:=Ue (AO k)
 obtain⟨uv,K⟩:=Ue (AN k)
 have W:=UD (∀b,Cl prog 90 #[nI nX k] b fun e w'=>e= nR (nT #[.bool uf,.bool uv,.bool true])/\Chg b w' []) fun b=>by
  have:=Jm k b;rw[<-J,<-K,show CP k=true by unfold CP;simp;omega]at this;exact this
 clear h E F H D t I C v z J K G;go_enter func71,ntmps71
 go_wp2_with(first
  |(go_at_call 118;refine(g.o _ (by exact cg cR)).mono ?_;rintro e N ⟨m,rfl⟩;have u:=UD (Chg w N []) (ct cR m);have U:=UD (Ac N w.heap.size gj 42) ((Ac.new w _ _).kept m);clear m)
  |(go_at_call 119;refine(x.o _ _ u.o).mono ?_;rintro e w2 ⟨rfl,o⟩;have d:=hZ (u.o.trans o);have y:=hZ (U.o.kept o);have S:=UD (w.heap.size≠w2.heap.size) (by have:=y.o.lt;omega);clear o)
  |(go_at_call 90;refine(W.o _).mono ?_;rintro e O ⟨rfl,r⟩;have f:=UD (Chg w2 O []) (ct cR r);have X:=UD (Ac O w2.heap.size [nI nX k,nG ⟨#[]⟩,nG ⟨#[]⟩,nS nN 0 0] 42) ((Ac.new w2 _ _).kept r);clear r)
  |(go_at_call 120;refine(j.o _ (d.o.trans f.o)).mono ?_;rintro e w4 ⟨a,rfl⟩;unfold eT;have P:=hZ ((d.o.trans f.o).trans a);have Y:=hZ (X.o.kept a);have V:=hZ ((y.o.kept f.o).kept a);have T:=hZ d.o.size;obtain⟨x1,x2,x3,x4,x5,x6⟩:=Ac.cells4 Y.o;clear a)
  |(refine Ae rfl _ _ _ rfl w.heap.size gj ZN ZN 42 gj (by exact V.o.set_other _ _ S.o.symm) A0 rfl kU ?_;intro w6 ab A B;have Q:=hZ A;have R:=hZ B;clear ab A B))
 refine bodyPost_ret (Gn rfl _ _ w.heap.size 42 _ _ rfl Q.o underlying42 rfl A0) rfl ?_;exact⟨rfl,(P.o.setCell _ _ (by have:=T.o;simp;omega)).fresh R.o (fun i hi=>by simp at hi;omega)⟩
theorem lV{ks:List BY}{l:List Tr}{T:Option Addr}{c:Nat}{p:BY}{w:Wl}(h:kZ ks l T c p w)(hp:p.size<=1000){s:BY}(N:E4 ks l p SB= .yes s)(h0:Ob s≠0){A:BY}(P:RL ks l p Fj= .yes A)(z:AO (Ob s)=true){U:Nat}{q:BY}(J:RL ks l p Oa= .no U q):
  Cl prog 71 #[nS T ks.length c,nG p] w (k9 U q w):=by
 have M:=gg s;have y:=fP s;have r:=hZ h.mem;rw[N]at r;have t:=hZ (h.path Fj ZM);have m:=hZ (h.path Oa ZM);have G:=hZ h.vidx;have D:=hZ (h.widx s);have R:=Jm (Ob s);obtain⟨k,L⟩:=Ue (Ob s)
 rw[<-L]at M y R h0 z;have aj:IntKind.i64.wrap (1+eN fG s)=(k:Int):=by rw[y];exact IntWalk.i64_in _ ⟨Zj,Zj⟩
 obtain⟨q2,Q⟩:=Ue (eN fG s)
 rw[<-Q]at aj D;obtain⟨n,O⟩:=Ue ks.length
 rw[<-O]at r t m G|-;rw[P]at t;rw[J]at m;obtain⟨uv,S⟩:=Ue (AN k)
 have HU:=UD (∀d,Cl prog 90 #[nI nX k] d fun e w'=>e= nR (nT #[.bool true,.bool uv,.bool true])/\Chg d w' []) fun d=>by
  have:=Jm k d;rw[z,<-S,show CP k=true by unfold CP;simp;omega]at this;exact this
 clear h N O Q M y R L G z S P J;go_enter func71,ntmps71
 go_wp2_with(first
  |(go_at_call 120;have al:=f.o;refine(m.o _ (f.o.setCell _ _ (by have:=o.o;simp;omega))).mono ?_;rintro e B ⟨b,rfl⟩;unfold eT;have ai:=UD (Ac B w2.heap.size [nI nX k,nG A,nG ⟨#[]⟩,nS nN 0 0] 42) ((H.o.set 1 (nG A)).kept b);have aa:=UD (Chg w B []) ((f.o.setCell _ _ (by have:=o.o;simp;omega)).trans b);have ag:=UD (Ac B w.heap.size gj 42) ((af.o.set_other _ _ E.o.symm).kept b);clear X Y Z x4 x5 x6;obtain⟨X,Y,Z,x4,x5,x6⟩:=Ac.cells4 ai.o;clear b)
  |(go_at_call 118;refine(r.o _ (by exact cg cR)).mono ?_;rintro e V ⟨u,rfl⟩;have C:=UD (Chg w V []) (ct cR u);have ae:=UD (Ac V w.heap.size gj 42) ((Ac.new w _ _).kept u);clear u)
  |(go_at_call 119;refine(D.o _ _ C.o).mono ?_;rintro e w2 ⟨rfl,v⟩;have g:=hZ (C.o.trans v);have F:=hZ (ae.o.kept v);have E:=UD (w.heap.size≠w2.heap.size) (by have:=F.o.lt;omega);clear v)
  |(go_at_call 90;refine(HU.o _).mono ?_;rintro e W ⟨rfl,x⟩;have j:=UD (Chg w2 W []) (ct cR x);have ah:=UD (Ac W w2.heap.size [nI nX k,nG ⟨#[]⟩,nG ⟨#[]⟩,nS nN 0 0] 42) ((Ac.new w2 _ _).kept x);clear x)
  |(go_at_call 120;refine(t.o _ (g.o.trans j.o)).mono ?_;rintro e w4 ⟨a,rfl⟩;have f:=hZ ((g.o.trans j.o).trans a);have H:=hZ (ah.o.kept a);have af:=hZ ((F.o.kept j.o).kept a);have o:=hZ g.o.size;obtain⟨X,Y,Z,x4,x5,x6⟩:=Ac.cells4 H.o;clear a)
  |(refine Ae rfl _ _ _ rfl w.heap.size gj ZN ZN 42 gj (by exact ag.o.set_other _ _ E.o.symm) A0 rfl kU ?_;intro w6 ak I K;have ab:=hZ I;have ad:=hZ K;clear ak I K))
 refine bodyPost_ret (Gn rfl _ _ w.heap.size 42 _ _ rfl ab.o underlying42 rfl A0) rfl ?_;exact⟨rfl,(aa.o.setCell _ _ (by have:=o.o;simp;omega)).fresh ad.o (fun i hi=>by simp at hi;omega)⟩
theorem lF{ks:List BY}{l:List Tr}{Q:Option Addr}{c:Nat}{p:BY}{w:Wl}(h:kZ ks l Q c p w)(hp:p.size<=1000){s:BY}(I:E4 ks l p SB= .yes s)(h0:Ob s≠0){ai:BY}(L:RL ks l p Fj= .yes ai)(d:AN (Ob s)=true)(a:C4 ks SZ=false):
  Cl prog 71 #[nS Q ks.length c,nG p] w (k9 4 p w):=by
 have H:=gg s;have y:=fP s;have m:=hZ h.mem;rw[I]at m;have o:=hZ (h.path Fj ZM);have B:=hZ (h.path Oa ZM);have q:=hZ h.vidx;have C:=hZ (h.widx s);have N:=Jm (Ob s);have K:=a;clear a;obtain⟨k,a⟩:=Ue (Ob s)
 rw[<-a]at H y N h0 d;have ag:IntKind.i64.wrap (1+eN fG s)=(k:Int):=by rw[y];exact IntWalk.i64_in _ ⟨Zj,Zj⟩
 obtain⟨q2,M⟩:=Ue (eN fG s)
 rw[<-M]at ag C;obtain⟨n,J⟩:=Ue ks.length
 rw[<-J]at m o B q|-;rw[L]at o;have O:=Nd d;have P:eN ks SZ= -1:=by unfold eN;rw[K];rfl
 rw[P]at q
 have HU:=UD (∀f,Cl prog 90 #[nI nX k] f fun e w'=>e= nR (nT #[.bool false,.bool true,.bool true])/\Chg f w' []) fun f=>by
  have:=Jm k f;rw[O,d,show CP k=true by unfold CP;simp;omega]at this;exact this
 clear h I J M H y N a B O d L P K;go_enter func71,ntmps71
 go_wp2_with(first
  |(go_at_call 118;refine(m.o _ (by exact cg cR)).mono ?_;rintro e R ⟨r,rfl⟩;have A:=UD (Chg w R []) (ct cR r);have Z:=UD (Ac R w.heap.size gj 42) ((Ac.new w _ _).kept r);clear r)
  |(go_at_call 119;refine(C.o _ _ A.o).mono ?_;rintro e w2 ⟨rfl,t⟩;have g:=hZ (A.o.trans t);have E:=hZ (Z.o.kept t);have Y:=UD (w.heap.size≠w2.heap.size) (by have:=E.o.lt;omega);clear t)
  |(go_at_call 90;refine(HU.o _).mono ?_;rintro e S ⟨rfl,u⟩;have j:=UD (Chg w2 S []) (ct cR u);have ae:=UD (Ac S w2.heap.size [nI nX k,nG ⟨#[]⟩,nG ⟨#[]⟩,nS nN 0 0] 42) ((Ac.new w2 _ _).kept u);clear u)
  |(go_at_call 120;refine(o.o _ (g.o.trans j.o)).mono ?_;rintro e w4 ⟨b,rfl⟩;have z:=hZ ((g.o.trans j.o).trans b);have af:=hZ (ae.o.kept b);have aa:=hZ ((E.o.kept j.o).kept b);have D:=hZ g.o.size;obtain⟨x1,x2,x3,x4,x5,x6⟩:=Ac.cells4 af.o;clear b)
  |(go_at_call 121;refine(q.o _ (z.o.setCell _ _ (by have:=D.o;simp;omega))).mono ?_;rintro e T ⟨rfl,v⟩;have U:=UD (Chg w T []) ((z.o.setCell _ _ (by have:=D.o;simp;omega)).trans v);have ab:=UD (Ac T w.heap.size gj 42) ((aa.o.set_other _ _ Y.o.symm).kept v);clear x1 x2 x3 x4 x5 x6 v)
  |(go_at_call 69;refine(eZ _ _ _).mono ?_;rintro e w7 ⟨rfl,x⟩;unfold eT;have V:=UD (Chg w w7 []) (U.o.trans x);have ad:=hZ (ab.o.kept x);clear x)
  |(refine Ae rfl _ _ _ rfl w.heap.size gj ZN ZN 42 gj (by exact ad.o) A0 rfl kU ?_;intro w6 ah F G;have W:=hZ F;have X:=hZ G;clear ah F G))
 refine bodyPost_ret (Gn rfl _ _ w.heap.size 42 _ _ rfl W.o underlying42 rfl A0) rfl ?_;exact⟨rfl,V.o.fresh X.o (fun i hi=>by simp at hi;omega)⟩
theorem mo{ks:List BY}{l:List Tr}{r:Option Addr}{c:Nat}{p:BY}{w:Wl}(h:kZ ks l r c p w)(n:p.size<=1000){k:Nat}{q:BY}(a:Xi ks l p= .no k q):
  Cl prog 71 #[nS r ks.length c,nG p] w (k9 k q w):=by
 unfold Xi at a
 cases f:E4 ks l p SB with
 |no e t=>rw[f]at a;injection a with b d;subst b;subst d;exact mp h f
 |yes s=>
  rw[f]at a;simp only at a;split at a
  .rename_i g;injection a with b d;subst b;subst d;exact lX h n f g
  .rename_i g
   cases i:RL ks l p Fj with
   |no e t=>rw[i]at a;injection a with b d;subst b;subst d;exact lY h n f g i
   |yes x=>
    rw[i]at a;simp only at a;by_cases j:AO (Ob s)=true
    .rw[Qr j]at a
     cases o:RL ks l p Oa with
     |no e t=>rw[o]at a;injection a with b d;subst b;subst d;exact lV h n f g i j o
     |yes v=>
      rw[o]at a;have m:¬AN (Ob s)=true:=fun m=>by rw[Nd m]at j;cases j
      simp only[Qs m]at a;cases a
    .rw[Qs j]at a
     simp only at a;split at a
     .rename_i m
      split at a
      .cases a
      .rename_i u;injection a with b d;subst b;subst d;exact lF h n f g i m (by simpa using u)
     .cases a
end
end Go.Proofs.YtkfnkppdhcaeoaaGreatDoor

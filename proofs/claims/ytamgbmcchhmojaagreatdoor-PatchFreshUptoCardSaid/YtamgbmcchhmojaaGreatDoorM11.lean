/- Part 11 of the proof of patchFresh_card. -/
import Derived.Test.YtamgbmcchhmojaaGreatDoorM10
set_option maxRecDepth 100000
set_option maxHeartbeats 32000000
set_option linter.all false
namespace Go.Proofs.YtamgbmcchhmojaaGreatDoor
open Go renaming Calls->Cl,TypeId->Ti,Value->Vl,World->Wl
open Go.Value renaming agg->nA,iface->nF,int->nI,pointer->nP,slice->nS,string->nG,tuple->nT
open Go.IntKind renaming i64->nX
open Go.Ending renaming returned->nR
open Go.Obj renaming cells->nC
open Option renaming none->nN,some->nM
section
open Go Go.RowKit Tree Ptr
def f1:Nat:=4607182418800017408
def f2:Nat:=4611686018427387904
def f5:Nat:=4617315517961601024
def f9:Nat:=4621256167635550208
def kA:BY:=⟨#[97]⟩
def kB:BY:=⟨#[98]⟩
def kC:BY:=⟨#[99]⟩
def Fv(b:Nat):Ap:=⟨3,false,b,Dz,0,[]⟩
def Un(n:Int):Ap:=⟨5,false,0,Dz,n,[]⟩
def Y7:Ap:=⟨1,false,0,Dz,0,[]⟩
def Ve(ks:List BY):Ap:=⟨6,false,0,Dz,0,ks⟩
def Ut:List Ap:=[Fv f1,Fv f2,Un 2,Y7,Ve [kC],Ve [kA,kB]]
def T0:Tr:= .obj [kA,kB] [.list [.num f1,.num f2],.obj [kC] [.null]]
def T1:Tr:= .obj [kA] [.list [.num f1,.num f9,.num f2]]
def ar:Tr:= .obj [kA,kB] [.list [.num f1,.num f9,.num f2],.obj [kC] [.null]]
def aC:BY:=⟨#[47,97,47,49]⟩
def pB:BY:=⟨#[47,98]⟩
def k1:BY:=⟨#[49]⟩
def Ln:List Ap:=[Fv f1,Fv f9,Fv f2,Un 3,Ve [kA]]
def Z5:Bq:=⟨1,aC,Dz,[Fv f9]⟩
def ak:Bq:=⟨2,pB,Dz,[]⟩
def DH:List Bq:=[Z5,ak]
def Zf:CW:=⟨1,pB,Dz,Ai (.obj [kC] [.null])⟩
def X2:CW:=⟨2,aC,Dz,[]⟩
def Fa:List CW:=[Zf,X2]
theorem PA:Ut=(Ai T0).map Aw.toI:=rfl
theorem Xb:Hs f1:=⟨ZM,Yb,Yb⟩
theorem Xc:Hs f2:=⟨ZM,Yb,Yb⟩
theorem Xe:Hs f9:=⟨ZM,Yb,Yb⟩
theorem U3:Cy [kA,kB]:=⟨ZM,ZM,ZM,ZM⟩
theorem WJ:Cy [kA]:=⟨ZM,ZM,ZM,ZM⟩
theorem Rc:Cy [kC]:=⟨ZM,ZM,ZM,ZM⟩
theorem LH:Bt T0:=⟨⟨U3,rfl,⟨Xb,Xc,trivial⟩,⟨Rc,rfl,trivial,trivial⟩,trivial⟩,ZM⟩
theorem fk:Bt (.num f9):=⟨Xe,ZM⟩
theorem TZ{p:UInt8->Bool}:∀(l r:List UInt8),l.all p=true->(l++r).takeWhile p=l++r.takeWhile p/\(l++r).dropWhile p=r.dropWhile p
 |[],r,_=>⟨rfl,rfl⟩
 |c::l,r,h=>by
  simp only[List.all_cons,Bool.and_eq_true]at h;obtain⟨a,b⟩:=TZ l r h.2;rw[Qo,List.takeWhile_cons,List.dropWhile_cons,Qr h.1,Qr h.1,a,b];exact⟨rfl,rfl⟩
theorem Sr(l:List UInt8)(h:l.all Bc=true)(c:UInt8):CE (c::l)=[Ct l]:=by
 rw[CE];have e:=TZ l [] h;rw[List.append_nil]at e;rw[e.1,e.2];simp[CE]
theorem X0(a b:List UInt8)(h:a.all Bc=true)(c:UInt8):CE (c::(a++47::b))=Ct a::CE (47::b):=by
 rw[CE];have d:Bc 47=false:=rfl;have e:=TZ a (47::b) h;rw[e.1,e.2,List.takeWhile_cons,List.dropWhile_cons];simp[d]
theorem RK{s:BY}{ts:List (List UInt8)}(a:CY s.data.toList=true)(b:BH s.data.toList=true)(c:A4 s.data.toList=true)(d:s.data.toList.count 47<=65536)(h:CE s.data.toList=ts):
  AD s=nM (ts.map fun t=>⟨t.toArray⟩):=by
 unfold AD;rw[Qr ⟨by rw[E8];exact a,b,c,d⟩,h]
theorem Xx:AD aC=nM [kA,k1]:=
 RK (ts:=[[97],[49]]) ZM ZM ZM ZM (by
  show CE (47::([97]++47::[49]))=_
  rw[X0 _ _ ZM,Sr _ ZM];rfl)
theorem YK:AD pB=nM [kB]:=
 RK (ts:=[[98]]) ZM ZM ZM ZM (by
  show CE (47::[98])=_
  rw[Sr _ ZM];rfl)
theorem P4:AS [Fv f9]=nM (.num f9):=FE (t:= .num f9) fk.good fk.fits
theorem au:Gz T0 Z5= .yes ar [X2]:=by
 rw[Gd (ts:=[kA,k1]) ZM rfl Xx (fun _=>by show(AS [Fv f9]).isSome=true;rw[P4];rfl)];show Da T0 Z5 [kA,k1] _ ((AS [Fv f9]).getD .null)=_
 rw[P4];rfl
theorem av:Gz ar ak= .yes T1 [Zf]:=by
 rw[Gd (ts:=[kB]) ZM rfl YK (fun h=>by cases h)];rfl
theorem KL:BR T0 [] 0 DH= .yes T1 Fa:=by
 unfold DH BR;rw[au];show BR ar [X2] 1 [ak]=_
 unfold BR;rw[av];rfl
theorem Lj:∀o∈DH,ZL o:=by
 have d:(0:Int)<=9223372036854775807:=ZM;intro o b;simp only[DH,Qh,List.not_mem_nil,or_false]at b;rcases b with rfl|rfl
 .refine⟨ZM,ZM,fun s a=> ?_⟩;simp only[Z5,Qh,List.not_mem_nil,or_false]at a;subst a;exact⟨ZM,ZM,ZM,(fun k c=>by cases c),ZM,ZM⟩
 .exact⟨ZM,ZM,fun s a=>by cases a⟩
theorem uK:Bt (.obj [kC] [.null]):=⟨⟨Rc,rfl,trivial,trivial⟩,ZM⟩
theorem uI:AS Zf.toI.steps=nM (.obj [kC] [.null]):=FE (t:= .obj [kC] [.null]) uK.good uK.fits
theorem uM:Gz T1 Zf.toI= .yes ar [⟨2,pB,Dz,[]⟩]:=by
 rw[Gd (ts:=[kB]) ZM rfl YK (fun _=>by rw[uI];rfl)];show Da T1 Zf.toI [kB] _ ((AS Zf.toI.steps).getD .null)=_
 rw[uI];show Ga T1 [kB] (.obj [kC] [.null]) []=_
 have h:At T1 [kB] (.obj [kC] [.null])=ar:=Cy.objT U3 rfl;unfold Ga;rw[h];rfl
theorem uL:Gz ar X2.toI= .yes T0 [⟨1,aC,Dz,Ai (.num f9)⟩]:=by
 rw[Gd (ts:=[kA,k1]) ZM rfl Xx (fun h=>by cases h)];rfl
theorem T5:∃U,BR T1 [] 0 (Fa.map CW.toI)= .yes T0 U:=by
 refine⟨[⟨1,aC,Dz,Ai (.num f9)⟩,⟨2,pB,Dz,[]⟩], ?_⟩;show BR T1 [] 0 [Zf.toI,X2.toI]=_
 unfold BR;rw[uM];show BR ar [⟨2,pB,Dz,[]⟩] 1 [X2.toI]=_
 unfold BR;rw[uL];rfl
end
section
open _root_.Go.Proofs.Tryz
open Go Go.RowKit Tree Ptr
def MF:List Char:=[Char.ofNat 97,Char.ofNat 102,Char.ofNat 102,Char.ofNat 105,Char.ofNat 100,Char.ofNat 97,Char.ofNat 118,Char.ofNat 105,Char.ofNat 116,Char.ofNat 47,Char.ofNat 112,Char.ofNat 97,Char.ofNat 116,Char.ofNat 99,Char.ofNat 104,Char.ofNat 46]
def J8:String:=String.ofList (MF++[Char.ofNat 115,Char.ofNat 105,Char.ofNat 122,Char.ofNat 101])
def EB:String:=String.ofList (MF++[Char.ofNat 115,Char.ofNat 116,Char.ofNat 101,Char.ofNat 112,Char.ofNat 115])
def GK:String:=String.ofList (MF++[Char.ofNat 99,Char.ofNat 111,Char.ofNat 112,Char.ofNat 105,Char.ofNat 101,Char.ofNat 100])
theorem results_tmp3{b:Func}{t u v:Tmp}(h:b.results=#[.tmp t,.tmp u,.tmp v])(a:Array Vl)(P:Program)(w:Wl):
  (results b a).run P w= .ok (nT #[a.getD t undef,a.getD u undef,a.getD v undef]) w:=by
 simp[results,h]
def Jv(s:Sz):Vl:= nT #[nI nX s.nodes,nI nX s.bytes,nI nX s.depth]
theorem RD(sv:Vl)(s:BY)(b:Bool)(c:∃a x,sv= nF a x)(d:∀w,(Instr.typeAssert sv 129 127 true).run prog w= .ok (nT #[nG s,.bool b]) w)(w:Wl):
  Cl prog 266 #[nA #[sv]] w fun e w'=>e= nR (Jv ⟨1,s.size,1⟩)/\Chg w w' []:=by
 obtain⟨a,x,rfl⟩:=c;go_enter func266,ntmps266;go_wp2;refine bodyPost_ret (results_tmp3 rfl _ _ _) rfl ⟨rfl,by exact cg cR⟩
theorem VB(v:Vl)(w:Wl):(callMethod (nF 131 (nA #[v])) J8 #[]).run prog w= .ok (.enter 266 #[nA #[v]]) w:=Yb
theorem VC(b:Nat)(w:Wl):(callMethod (nF 71 (nP (nM ⟨b,0,nN⟩))) J8 #[]).run prog w= .ok (.enter 250 #[nP (nM ⟨b,0,nN⟩)]) w:=Yb
theorem Se(b:Nat)(w:Wl):(callMethod (nF 123 (nP (nM ⟨b,0,nN⟩))) J8 #[]).run prog w= .ok (.enter 261 #[nP (nM ⟨b,0,nN⟩)]) w:=Yb
def JB(v:Vl)(s:Sz)(w:Wl):Prop:=∃f args,(callMethod v J8 #[]).run prog w= .ok (.enter f args) w/\Cl prog f args w fun e w'=>e= nR (Jv s)/\Chg w w' []
theorem KW{l:List Tr}(h:∀u∈l,(Ag u).within=true)(k:Nat):(Bk (l.take k)).nodes<=65536*l.length/\(Bk (l.take k)).bytes<=2097152*l.length/\(Bk (l.take k)).depth<=512:=by
 have b:=(EJ.take (l:=l) h k).sum;have a:(l.take k).length<=l.length:=by rw[Ql];omega
 have:=Nat.mul_le_mul_left 65536 a;have:=Nat.mul_le_mul_left 2097152 a;omega
theorem Ld(l:List Tr)(vs:List Vl)(fs:List Nat)(b:Nat)(a:Option Addr)(c:Nat)(w:Wl)(hb:w.cell? ⟨b,0,nN⟩=nM (nS a vs.length c))(O:AK w (nS a vs.length c) 66 vs)(t:PsAt w l vs fs)(Q:∀u∈l,(Ag u).within=true)(hl:l.length<=65536)(J:∀u v p w',u∈l->AP w' u v p->JB v (Ag u) w'):
  Cl prog 250 #[nP (nM ⟨b,0,nN⟩)] w fun e w'=>e= nR (Jv ((Bk l).over 0))/\Chg w w' []:=by
 have ae:=t.length;have G:=hZ O;have HP:=hZ t;have Z:=hZ J;have F:=hZ Q;have lb:=World.block_lt_of_cell? w _ hb;clear O t J Q;go_enter func250,ntmps250;go_wp2
 go_loopw [2,3,4,15] (fun v2 v3 v4 C wr=>∃k:Nat,k<=vs.length/\v2= nI nX (Bk (l.take k)).nodes/\v3= nI nX (Bk (l.take k)).bytes/\v4= nI nX (Bk (l.take k)).depth/\C= nI nX k/\Chg w wr [])
  (fun _ _ _ C _=>vs.length-(intOf C).toNat)
 case atStart=>exact⟨0,Zj,by simp[Bk],by simp[Bk],by simp[Bk],rfl,Chg.refl _ _⟩
 case round=>
  obtain⟨k,hk,rfl,rfl,rfl,rfl,R⟩:=hrel;have o:=KW F.o k;obtain⟨N,s⟩:=Ue ((Bk (l.take k)).nodes);obtain⟨M,r⟩:=Ue ((Bk (l.take k)).bytes);obtain⟨D,q⟩:=Ue ((Bk (l.take k)).depth);rw[<-s,<-r,<-q]at o|-;have I:=hZ s;have H:=hZ r;have E:=hZ q;clear s r q;have n1:N<=4294967296:=Zj;have n2:M<=137438953472:=Zj;have n3:D<=512:=o.2.2;clear o;have i:=hZ R;clear R;by_cases ab:k<vs.length
  .have z:k<l.length:=by omega
   obtain⟨u,m⟩:∃u,l[k]? =nM u:=⟨_,Q9 z⟩;obtain⟨v,p,X,W,_⟩:=HP.o.get m
   obtain⟨g,rfl⟩:∃g,a=nM ⟨g,0,nN⟩:=by
    obtain⟨a',c',e,h⟩:=G.o.form;injection e with j
    subst j;exact h (by intro e;subst e;simp at ab)
   have ad:wr.cell? ⟨g,k,nN⟩=nM v:=i.o.keeps (G.o.cell rfl k v X);have A:=W.chg i.o Zh;have B:=Qi m;obtain⟨ti,x,rfl⟩:=A.iface;obtain⟨f,args,U,P⟩:=Z.o u _ p wr B A;have aa:=hZ U;have d:=Ar (F.o u B);obtain⟨S,y⟩:=Ue (Ag u);rw[<-y]at d P;obtain⟨s1,s2,s3⟩:=S;simp only at d;obtain⟨d,af,w3⟩:=d
   have V:Bk (l.take (k+1))=⟨N+s1,M+s2,max D s3⟩:=by
    rw[BM m,<-y];unfold Sz.add;rw[<-I.o,<-H.o,<-E.o]
   have n:=hZ V;clear V U X W A y m B
   go_wp2_with(first
    |(refine Am rfl _ _ _ rfl _ rfl f args aa.o _ P ?_;rintro e d ⟨rfl,T⟩;refine⟨_,rfl, ?_⟩;unfold Jv;have Y:=hZ T;clear T))
   go_roundw
   case rel=>
    refine⟨k+1,Zj, ?_, ?_, ?_,by go_num,i.o.trans Y.o⟩
    .rw[n.o];simp
    .rw[n.o];simp
    .rw[n.o];simp;omega
   case measure=>simp[intOf];omega
  .go_wp2;refine bodyPost_ret (results_tmp3 rfl _ _ _) rfl ?_;have z:l.take k=l:=Qn Zj;have j:=I.o;have K:=H.o;have L:=E.o;rw[z]at j K L;subst j;subst K;subst L;refine⟨?_,i.o⟩;unfold Jv Sz.over;simp;omega
end
section
open Go Go.RowKit Tree Ptr
variable{e:Ending}{l:List Ap}{bs:List Nat}{xs:List Vl}{m n:Nat}{G:Nat->Prop}{sv:Vl}{w w':Wl}
structure Nj(bs:List Nat)(G:Nat->Prop)(sv:Vl)(n:Nat)(l:List Ap)(xs:List Vl)(w:Wl):Prop where
 lst:Ba w sv 55 6 n xs
 at_:Cr w G l xs
 own:∀g,sv.ownBlock=nM g->g∉bs/\¬G g
 ltG:∀b,G b->b<w.heap.size
def MW(t:Tr):List Ap:=(Ai t).map Aw.toI
def KH(l:List Tr):List Ap:=(BI l).map Aw.toI
def CJ(G:Nat->Prop)(sv:Vl)(n m:Nat)(l:List Ap)(w:Wl)(e:Ending)(w':Wl):Prop:=
 ∃c a d,e= nR c/\Ba w' c 55 6 (n+m) d/\Cr w' a l d/\Chg w w' sv.ownBlock.toList/\
  (∀g,c.ownBlock=nM g->sv.ownBlock=nM g\/w.heap.size<=g)/\(∀b,G b->a b)/\(∀b,a b->b<w.heap.size->G b)/\(∀b,a b->b<w'.heap.size)/\(∀g,c.ownBlock=nM g->¬a g)
theorem Nj.kept(h:Nj bs G sv n l xs w)(a:Chg w w' []):Nj bs G sv n l xs w':=
 ⟨h.lst.kept a,h.at_.kept (a.keepsB h.ltG Zh) (fun _ h=>h),h.own,fun b c=>Q6 (h.ltG b c) a.size⟩
theorem Nj.sub{cs:List Nat}(h:Nj bs G sv n l xs w)(d:∀b,b∈cs->b∈bs):Nj cs G sv n l xs w:=
 ⟨h.lst,h.at_,fun g a=>⟨fun c=>(h.own g a).1 (d g c),(h.own g a).2⟩,h.ltG⟩
theorem CJ.inn{k:List Ap}(p:Nj bs G sv n l xs w)(o:∀b,b∈bs->b<w.heap.size)(h:CJ G sv n m k w e w'):
  ∃c a d,e= nR c/\Nj bs a c (n+m) k d w'/\Chg w w' sv.ownBlock.toList/\(∀g,c.ownBlock=nM g->sv.ownBlock=nM g\/w.heap.size<=g)/\(∀b,G b->a b)/\(∀b,a b->b<w.heap.size->G b):=by
 obtain⟨c,a,d,rfl,q,r,s,j,t,u,v,x⟩:=h;refine⟨c,a,d,rfl,⟨q,r,fun g f=>⟨fun i=> ?_,x g f⟩,v⟩,s,j,t,u⟩;rcases j g f with h|h
 .exact(p.own g h).1 i
 .have:=o g i;omega
theorem CJ.step{a:Nat->Prop}{o:Vl}{k:Nat}{wr:Wl}(p:∀b,G b->a b)(q:∀b,a b->b<w.heap.size->G b)(d:Chg w wr sv.ownBlock.toList)(i:∀g,o.ownBlock=nM g->sv.ownBlock=nM g\/w.heap.size<=g)(h:CJ a o (n+m) k l wr e w'):CJ G sv n (m+k) l w e w':=by
 obtain⟨C,G2,D,rfl,t,u,v,x,y,z,A,B⟩:=h;refine⟨C,G2,D,rfl,by rw[<-Nat.add_assoc];exact t,u, ?_, ?_,fun b c=>y b (p b c),fun b c f=>q b (z b c (Q6 f d.size)) f,A,B⟩
 .refine d.step v fun j s f=> ?_;rcases i j (by simpa using s)with h|h
  .simpa using h
  .omega
 .intro g r;rcases x g r with h|h
  .exact i g h
  .exact .inr (Q7 d.size h)
theorem CJ.same(h:Nj bs G sv n l xs w)(c:Chg w w' []):CJ G sv n 0 l w (nR sv) w':=by
 have a:=h.kept c;exact⟨sv,G,xs,rfl,a.lst,a.at_,c.none _,fun g b=> .inl b,fun _ h=>h,fun _ h _=>h,a.ltG,fun g b=>(h.own g b).2⟩
theorem KS{F:Nat->Prop}(s:Ap)(sk:Vl)(b:Ba w sk 9 1 s.keys.length (Ad s.keys))(a:SE F sk):Cr w F [s] (AI s sk):=
 ⟨sk,[],Zh,b,a,rfl⟩
theorem CJ.put{G2:Nat->Prop}{a w2:Wl}{s:Ap}{sk:Vl}{g cap:Nat}(m:Nj bs G sv n l xs w)(f:Chg w a [])(t:Ba w2 (nS (nM ⟨g,0,nN⟩) (n+1) cap) 55 6 (n+1) (xs++AI s sk))(d:Chg a w2 sv.ownBlock.toList)(u:sv.ownBlock=nM g\/w.heap.size<=g)(x:Ba a sk 9 1 s.keys.length (Ad s.keys))(k:SE G2 sk)(i:∀b,G b->G2 b)(q:∀b,G2 b->b<w.heap.size->G b)(o:∀b,G2 b->b<a.heap.size)(y:¬G2 g)(z:∀g,sv.ownBlock=nM g->¬G2 g):
  CJ G sv n 1 (l++[s]) w (nR (nS (nM ⟨g,0,nN⟩) (n+1) cap)) w2:=by
 have r:i3 G w a:=f.keepsB m.ltG Zh;have j:i3 G2 a w2:=d.keepsB o (fun b e v=>z b (by simpa using e) v);refine⟨_,G2,_,rfl,t, ?_,(f.none _).trans d, ?_,i,q,fun b e=>Q6 (o b e) d.size, ?_⟩
 .exact((m.at_.kept r i).kept j (fun _ h=>h)).append (KS s sk (x.keptF k j) k)
 .intro p c;simp[Vl.ownBlock]at c;subst c;exact u
 .intro p c;simp[Vl.ownBlock]at c;subst c;exact y
end
section
open _root_.Go.Proofs.Tryz
open Go Go.RowKit Tree Ptr
variable{p:Prop}{w:Wl}
structure Hr(ks:List BY)(s:BY)(i:Nat):Prop where
 yes:C4 ks s=true->i=A5 ks s/\i<ks.length/\ks[i]? =nM s
 no:C4 ks s=false->s∉ks/\i<=ks.length/\(∀t k,t<i->ks[t]? =nM k->Utf.BK k s<0)/\(∀t k,i<=t->ks[t]? =nM k->0<=Utf.BK k s)
theorem Hr.of{ks:List BY}{s:BY}{w':Wl}{e:Ending}(h:KQ ks s w e w')(m:Cy ks):∃i:Nat,e= nR (nT #[nI nX i,.bool (C4 ks s)])/\Chg w w' []/\Hr ks s i/\i<=ks.length:=by
 obtain⟨i,ok,j,k,a,b,c,f,g⟩:=h
 have o:ok=C4 ks s:=by
  cases ok with
  |true=>
   have:=Cp.2 (Qi (a rfl));exact this.symm
  |false=>
   have:=b rfl;cases l:C4 ks s with
   |true=>exact absurd (Cp.1 l) this
   |false=>rfl
 subst o;refine⟨i,j,k,⟨fun p=> ?_,fun n=>⟨b n,c,f,g⟩⟩,c⟩;have hi:=a p;obtain⟨d,e⟩:=Qc.1 hi;have:=GU m.nodup i d;rw[e]at this;exact⟨this.symm,d,hi⟩
theorem yF(h:p:=by exact cg cR):p:=h
theorem Pl(ks:List BY)(s:BY)(b:Nat)(sv sk:Vl)(w:Wl)(d:Ac w b [sv,sk] 125)(a:AK w sk 9 (Ad ks))(n:Cy ks)(v:Utf.Al s=true)(x:s.size<=2147483648):
  Cl prog 131 #[nP (nM ⟨b,0,nN⟩),nG s] w fun e w'=>∃i:Nat,e= nR (nT #[nI nX i,.bool (C4 ks s)])/\Chg w w' []/\Hr ks s i/\i<=ks.length:=by
 obtain⟨f,j,rfl,_⟩:=a.form;rw[Ao]at d a;have y:w.cell? ⟨b,1,nN⟩=nM (nS f ks.length j):=d.cell 1
 have t:=UD (∀c,Chg w c []->Cl prog 168 #[nS f ks.length j,nG s,.func (.func 100) #[] #[]] c fun e w'=>∃i:Nat,e= nR (nT #[nI nX i,.bool (C4 ks s)])/\Chg c w' []/\Hr ks s i/\i<=ks.length) fun c o=>
  (J7 (fun g=>(Vl.slice f ks.length j).ownBlock=nM g) _ ks s c (a.kept o).toRow (fun g u=>(a.kept o).lt u) n v x).mono fun e w' h=>Hr.of h n
 clear d a;go_enter func131,ntmps131
 go_wp2_with(first
  |(go_at_call 168;refine(t.o _ yF).mono ?_;rintro e z ⟨i,rfl,k,l,m⟩;have p:=hZ k;have q:=hZ l;have r:=hZ m;clear k l m))
 refine bodyPost_ret (results_tmp2 rfl _ _ _) rfl ⟨i,Zh,by exact cg p.o,q.o,r.o⟩
theorem MU(w:Wl):(callMethod (nF 188 (nA #[])) "Sort" #[]).run prog w= .ok (.enter 282 #[nA #[]]) w:=Yb
theorem MT(b:Bool)(w:Wl):(callMethod (nF 189 (.bool b)) "Sort" #[]).run prog w= .ok (.enter 284 #[.bool b]) w:=Yb
theorem NM(b:Nat)(w:Wl):(callMethod (nF 190 (.float .f64 b)) "Sort" #[]).run prog w= .ok (.enter 286 #[.float .f64 b]) w:=Yb
theorem MV(b:BY)(w:Wl):(callMethod (nF 127 (nG b)) "Sort" #[]).run prog w= .ok (.enter 264 #[nG b]) w:=Yb
theorem yK(h:p:=by go_wp2;go_ret;exact⟨rfl,by exact cg cR⟩):p:=h
theorem Nl(w:Wl):Cl prog 282 #[nA #[]] w fun e w'=>e= nR (nI nX 1)/\Chg w w' []:=by
 go_enter func282,ntmps282;exact yK
theorem Nk(b:Bool)(w:Wl):Cl prog 284 #[.bool b] w fun e w'=>e= nR (nI nX 2)/\Chg w w' []:=by
 go_enter func284,ntmps284;exact yK
theorem OT(b:Nat)(w:Wl):Cl prog 286 #[.float .f64 b] w fun e w'=>e= nR (nI nX 3)/\Chg w w' []:=by
 go_enter func286,ntmps286;exact yK
theorem Nm(b:BY)(w:Wl):Cl prog 264 #[nG b] w fun e w'=>e= nR (nI nX 4)/\Chg w w' []:=by
 go_enter func264,ntmps264;exact yK
theorem Ba.slots{sv:Vl}{e:Ti}{sz n:Nat}{xs:List Vl}(h:Ba w sv e sz n xs):∃a c,sv= nS a n c:=by
 obtain⟨a,c,h,_⟩:=h.form;exact⟨a,c,h⟩
theorem yD(h:p:=by
 refine CJ.put (sk:= nS nN 0 0) (G2:=G) a.o (m.o.alloc _) A.o z.o ?_ (Ba.nil _ _ _) (fun b o n c e=>by cases e) (fun _ h=>h) (fun _ h _=>h) (fun b D=> ?_) ?_ (fun g E=>(a.o.own g E).2)
 .rcases s.o with h|h
  .exact .inl h
  .right;rw[World.size_alloc]at h;omega
 .have:=a.o.ltG b D;simp;omega
 .intro u;rcases s.o with h|h
  .exact(a.o.own _ h).2 u
  .have:=a.o.ltG _ u;rw[World.size_alloc]at h;omega):p:=h
theorem yH(h:p:=by rw[i];exact hZ (((Chg.refl w []).alloc _).trans f|>.alloc _)):p:=h
theorem yI(h:p:=by exact a.o.lst.kept (bs:=[]) (by exact cg m.o) Zh):p:=h
theorem yL(h:p:=by rw[i,p];exact hZ (Ac.new _ _ _)):p:=h
theorem JW(G:Nat->Prop)(sv:Vl)(n:Nat)(l:List Ap)(xs:List Vl)(w:Wl)(q:Nj [] G sv n l xs w)(F:n+1<=4294967296):
  Cl prog 267 #[nA #[AG .null],sv] w (CJ G sv n 1 (l++MW .null) w):=by
 obtain⟨J,K,rfl⟩:=q.lst.slots;have L:∀(w:Wl),(Instr.typeAssert (nF 188 (nA #[])) 129 189 true).run prog w= .ok (nT #[.bool false,.bool false]) w:=fun _=>Yb;have M:∀(w:Wl),(Instr.typeAssert (nF 188 (nA #[])) 129 190 true).run prog w= .ok (nT #[.float .f64 0,.bool false]) w:=fun _=>Yb;have N:∀(w:Wl),(Instr.typeAssert (nF 188 (nA #[])) 129 127 true).run prog w= .ok (nT #[nG ⟨#[]⟩,.bool false]) w:=fun _=>Yb;have a:=hZ q;have r:=UD ((n+1)*72<=140737488355328/\n<=140737488355328) ⟨Zj,Zj⟩;clear q F;unfold AG;go_enter func267,ntmps267
 go_upto_region 12 with(first
  |(refine Am rfl _ _ _ rfl _ rfl 282 #[nA #[]] (MU _) _ (Nl _) ?_;rintro e d ⟨rfl,f⟩;refine⟨_,rfl, ?_⟩;have C:d.cell? ⟨w.heap.size,0,nN⟩=nM (nF 188 (nA #[])):=f.keeps (Bx rfl _ _);have I:w.heap.size<d.heap.size:=by have:=f.size;simp at this;omega)
  |(go_at_call 268;refine(Pj _ _).mono ?_;rintro e Q ⟨rfl,rfl⟩))
 obtain⟨X,p⟩:=Ue d.heap.size;obtain⟨k,i⟩:=Ue (d.alloc (nC (AI (Aa .null).toI (nS nN 0 0)).toArray 55));have B:Hid (Ac k X (AI (Aa .null).toI (nS nN 0 0)) 55):=yL
 have m:Hid (Chg w k []):=yH
 change Code.wp _ _ _ _ (d.alloc (nC (AI (Aa .null).toI (nS nN 0 0)).toArray 55));rw[<-i,<-p];obtain⟨Z,Y,R,S,T,U,V,W⟩:=B.o.cells6;clear i p f C I
 go_wp2_with(first
  |(at_builtin;go_loud(refine Bg rfl _ _ _ rfl 55 Iq 6 72 ZM underlying22 DM rfl (nS J n K) n xs ZN yI k.heap.size (AI (Aa .null).toI (nS nN 0 0)) ZN rfl (by intro j v H;exact((Ac.new k (AI (Aa .null).toI (nS nN 0 0)) 55).cell j).trans H) (C0 _ _ _ _) r.o.1 r.o.2 ?_);intro g cap P x t y;have A:=hZ x;have z:=hZ t;have s:=hZ y;clear x t y))
 go_ret;have O:=m.o.size;exact yD
theorem JV(b:Bool)(G:Nat->Prop)(sv:Vl)(n:Nat)(l:List Ap)(xs:List Vl)(w:Wl)(q:Nj [] G sv n l xs w)(F:n+1<=4294967296):
  Cl prog 267 #[nA #[AG (.flag b)],sv] w (CJ G sv n 1 (l++MW (.flag b)) w):=by
 obtain⟨J,K,rfl⟩:=q.lst.slots;have L:∀(w:Wl),(Instr.typeAssert (nF 189 (.bool b)) 129 189 true).run prog w= .ok (nT #[.bool b,.bool true]) w:=fun _=>Yb;have a:=hZ q;have r:=UD ((n+1)*72<=140737488355328/\n<=140737488355328) ⟨Zj,Zj⟩;clear q F;unfold AG;go_enter func267,ntmps267
 go_upto_region 12 with(first
  |(refine Am rfl _ _ _ rfl _ rfl 284 #[.bool b] (MT b _) _ (Nk b _) ?_;rintro e d ⟨rfl,f⟩;refine⟨_,rfl, ?_⟩;have C:d.cell? ⟨w.heap.size,0,nN⟩=nM (nF 189 (.bool b)):=f.keeps (Bx rfl _ _);have I:w.heap.size<d.heap.size:=by have:=f.size;simp at this;omega)
  |(go_at_call 268;refine(Pj _ _).mono ?_;rintro e O ⟨rfl,rfl⟩))
 obtain⟨X,p⟩:=Ue d.heap.size;obtain⟨k,i⟩:=Ue (d.alloc (nC (AI (Aa (.flag b)).toI (nS nN 0 0)).toArray 55));have B:Hid (Ac k X (AI (Aa (.flag b)).toI (nS nN 0 0)) 55):=yL
 have m:Hid (Chg w k []):=yH
 change Code.wp _ _ _ _ (d.alloc (nC (AI (Aa (.flag b)).toI (nS nN 0 0)).toArray 55));rw[<-i,<-p];obtain⟨W,V,P,Q,R,S,T,U⟩:=B.o.cells6;clear i p f C I
 go_wp2_with(first
  |(at_builtin;go_loud(refine Bg rfl _ _ _ rfl 55 Iq 6 72 ZM underlying22 DM rfl (nS J n K) n xs ZN yI k.heap.size (AI (Aa (.flag b)).toI (nS nN 0 0)) ZN rfl (by intro j v H;exact((Ac.new k (AI (Aa (.flag b)).toI (nS nN 0 0)) 55).cell j).trans H) (C0 _ _ _ _) r.o.1 r.o.2 ?_);intro g cap N x t y;have A:=hZ x;have z:=hZ t;have s:=hZ y;clear x t y))
 go_ret;have M:=m.o.size;exact yD
theorem Ky(b:Nat)(G:Nat->Prop)(sv:Vl)(n:Nat)(l:List Ap)(xs:List Vl)(w:Wl)(q:Nj [] G sv n l xs w)(F:n+1<=4294967296):
  Cl prog 267 #[nA #[AG (.num b)],sv] w (CJ G sv n 1 (l++MW (.num b)) w):=by
 obtain⟨J,K,rfl⟩:=q.lst.slots;have L:∀(w:Wl),(Instr.typeAssert (nF 190 (.float .f64 b)) 129 189 true).run prog w= .ok (nT #[.bool false,.bool false]) w:=fun _=>Yb;have M:∀(w:Wl),(Instr.typeAssert (nF 190 (.float .f64 b)) 129 190 true).run prog w= .ok (nT #[.float .f64 b,.bool true]) w:=fun _=>Yb;have a:=hZ q;have r:=UD ((n+1)*72<=140737488355328/\n<=140737488355328) ⟨Zj,Zj⟩;clear q F;unfold AG;go_enter func267,ntmps267
 go_upto_region 12 with(first
  |(refine Am rfl _ _ _ rfl _ rfl 286 #[.float .f64 b] (NM b _) _ (OT b _) ?_;rintro e d ⟨rfl,f⟩;refine⟨_,rfl, ?_⟩;have C:d.cell? ⟨w.heap.size,0,nN⟩=nM (nF 190 (.float .f64 b)):=f.keeps (Bx rfl _ _);have I:w.heap.size<d.heap.size:=by have:=f.size;simp at this;omega)
  |(go_at_call 268;refine(Pj _ _).mono ?_;rintro e P ⟨rfl,rfl⟩))
 obtain⟨X,p⟩:=Ue d.heap.size;obtain⟨k,i⟩:=Ue (d.alloc (nC (AI (Aa (.num b)).toI (nS nN 0 0)).toArray 55));have B:Hid (Ac k X (AI (Aa (.num b)).toI (nS nN 0 0)) 55):=yL
 have m:Hid (Chg w k []):=yH
 change Code.wp _ _ _ _ (d.alloc (nC (AI (Aa (.num b)).toI (nS nN 0 0)).toArray 55));rw[<-i,<-p];obtain⟨Y,W,Q,R,S,T,U,V⟩:=B.o.cells6;clear i p f C I
 go_wp2_with(first
  |(at_builtin;go_loud(refine Bg rfl _ _ _ rfl 55 Iq 6 72 ZM underlying22 DM rfl (nS J n K) n xs ZN yI k.heap.size (AI (Aa (.num b)).toI (nS nN 0 0)) ZN rfl (by intro j v H;exact((Ac.new k (AI (Aa (.num b)).toI (nS nN 0 0)) 55).cell j).trans H) (C0 _ _ _ _) r.o.1 r.o.2 ?_);intro g cap O x t y;have A:=hZ x;have z:=hZ t;have s:=hZ y;clear x t y))
 go_ret;have N:=m.o.size;exact yD
theorem JX(b:BY)(G:Nat->Prop)(sv:Vl)(n:Nat)(l:List Ap)(xs:List Vl)(w:Wl)(q:Nj [] G sv n l xs w)(F:n+1<=4294967296):
  Cl prog 267 #[nA #[AG (.text b)],sv] w (CJ G sv n 1 (l++MW (.text b)) w):=by
 obtain⟨J,K,rfl⟩:=q.lst.slots;have L:∀(w:Wl),(Instr.typeAssert (nF 127 (nG b)) 129 189 true).run prog w= .ok (nT #[.bool false,.bool false]) w:=fun _=>Yb;have M:∀(w:Wl),(Instr.typeAssert (nF 127 (nG b)) 129 190 true).run prog w= .ok (nT #[.float .f64 0,.bool false]) w:=fun _=>Yb;have N:∀(w:Wl),(Instr.typeAssert (nF 127 (nG b)) 129 127 true).run prog w= .ok (nT #[nG b,.bool true]) w:=fun _=>Yb;have a:=hZ q;have r:=UD ((n+1)*72<=140737488355328/\n<=140737488355328) ⟨Zj,Zj⟩;clear q F;unfold AG;go_enter func267,ntmps267
 go_upto_region 12 with(first
  |(refine Am rfl _ _ _ rfl _ rfl 264 #[nG b] (MV b _) _ (Nm b _) ?_;rintro e d ⟨rfl,f⟩;refine⟨_,rfl, ?_⟩;have C:d.cell? ⟨w.heap.size,0,nN⟩=nM (nF 127 (nG b)):=f.keeps (Bx rfl _ _);have I:w.heap.size<d.heap.size:=by have:=f.size;simp at this;omega)
  |(go_at_call 268;refine(Pj _ _).mono ?_;rintro e Q ⟨rfl,rfl⟩))
 obtain⟨X,p⟩:=Ue d.heap.size;obtain⟨k,i⟩:=Ue (d.alloc (nC (AI (Aa (.text b)).toI (nS nN 0 0)).toArray 55));have B:Hid (Ac k X (AI (Aa (.text b)).toI (nS nN 0 0)) 55):=yL
 have m:Hid (Chg w k []):=yH
 change Code.wp _ _ _ _ (d.alloc (nC (AI (Aa (.text b)).toI (nS nN 0 0)).toArray 55));rw[<-i,<-p];obtain⟨Z,Y,R,S,T,U,V,W⟩:=B.o.cells6;clear i p f C I
 go_wp2_with(first
  |(at_builtin;go_loud(refine Bg rfl _ _ _ rfl 55 Iq 6 72 ZM underlying22 DM rfl (nS J n K) n xs ZN yI k.heap.size (AI (Aa (.text b)).toI (nS nN 0 0)) ZN rfl (by intro j v H;exact((Ac.new k (AI (Aa (.text b)).toI (nS nN 0 0)) 55).cell j).trans H) (C0 _ _ _ _) r.o.1 r.o.2 ?_);intro g cap P x t y;have A:=hZ x;have z:=hZ t;have s:=hZ y;clear x t y))
 go_ret;have O:=m.o.size;exact yD
theorem Rn{a b:Nat}(c:Hs a)(d:Hs b):(FloatKind.f64.format.order a b==nM .eq)=decide (a=b):=by
 have f:∀{n:Nat},Hs n->Fl.A7 n=0->n=0:=fun{n} h g=>by
  have:=h.2.2;unfold Cg at this;rw[Qr g]at this;exact this.symm
 have e:∀{n:Nat},Hs n->Fl.A7 n<9218868437227405312:=fun{n} h=>by have:=h.2.1;unfold Fl.Fh at this;simpa using this
 exact Fl.Tq c.1 d.1 (e c) (e d) (f c) (f d)
def AX:Tr->Bool
 | .list _=>false
 | .obj _ _=>false
 |_=>true
theorem Nv(w:Wl):(binOp .eql 129 (AG .null) (AG .null)).run prog w= .ok (.bool true) w:=Yb
theorem Nu(b:Bool)(w:Wl):(binOp .eql 129 (AG .null) (AG (.flag b))).run prog w= .ok (.bool false) w:=Yb
theorem O5(b:Nat)(w:Wl):(binOp .eql 129 (AG .null) (AG (.num b))).run prog w= .ok (.bool false) w:=Yb
theorem Nw(b:BY)(w:Wl):(binOp .eql 129 (AG .null) (AG (.text b))).run prog w= .ok (.bool false) w:=Yb
theorem Nr(a:Bool)(w:Wl):(binOp .eql 129 (AG (.flag a)) (AG .null)).run prog w= .ok (.bool false) w:=Yb
theorem Nq(a:Bool)(b:Bool)(w:Wl):(binOp .eql 129 (AG (.flag a)) (AG (.flag b))).run prog w= .ok (.bool (a==b)) w:=Yb
theorem O3(a:Bool)(b:Nat)(w:Wl):(binOp .eql 129 (AG (.flag a)) (AG (.num b))).run prog w= .ok (.bool false) w:=Yb
theorem Ns(a:Bool)(b:BY)(w:Wl):(binOp .eql 129 (AG (.flag a)) (AG (.text b))).run prog w= .ok (.bool false) w:=Yb
theorem O7(a:Nat)(w:Wl):(binOp .eql 129 (AG (.num a)) (AG .null)).run prog w= .ok (.bool false) w:=Yb
theorem O6(a:Nat)(b:Bool)(w:Wl):(binOp .eql 129 (AG (.num a)) (AG (.flag b))).run prog w= .ok (.bool false) w:=Yb
theorem QI(a:Nat)(b:Nat)(w:Wl):(binOp .eql 129 (AG (.num a)) (AG (.num b))).run prog w= .ok (.bool (FloatKind.f64.format.order a b==nM .eq)) w:=Yb
theorem O8(a:Nat)(b:BY)(w:Wl):(binOp .eql 129 (AG (.num a)) (AG (.text b))).run prog w= .ok (.bool false) w:=Yb
theorem Ny(a:BY)(w:Wl):(binOp .eql 129 (AG (.text a)) (AG .null)).run prog w= .ok (.bool false) w:=Yb
theorem Nx(a:BY)(b:Bool)(w:Wl):(binOp .eql 129 (AG (.text a)) (AG (.flag b))).run prog w= .ok (.bool false) w:=Yb
theorem O9(a:BY)(b:Nat)(w:Wl):(binOp .eql 129 (AG (.text a)) (AG (.num b))).run prog w= .ok (.bool false) w:=Yb
theorem Nz(a:BY)(b:BY)(w:Wl):(binOp .eql 129 (AG (.text a)) (AG (.text b))).run prog w= .ok (.bool (a==b)) w:=Yb
theorem P0(a b:BY):(a==b)=decide (a=b):=by
 have e:(a==b)=(a.data==b.data):=by cases a;cases b;rfl
 rw[e,Bool.eq_iff_iff,beq_iff_eq,decide_eq_true_eq];exact⟨fun h=>ByteArray.ext h,fun h=>by rw[h]⟩
theorem XJ(a b:Tr)(d:AX a=true)(c:AX b=true)(e:Av a)(f:Av b)(w:Wl):(binOp .eql 129 (AG a) (AG b)).run prog w= .ok (.bool (BQ a b)) w:=by
 cases a with
 |list _=>simp[AX]at d
 |obj _ _=>simp[AX]at d
 |null=>cases b with
  |list _=>simp[AX]at c
  |obj _ _=>simp[AX]at c
  |null=>exact Nv w
  |flag b=>exact Nu b w
  |num b=>exact O5 b w
  |text b=>exact Nw b w
 |flag a=>cases b with
  |list _=>simp[AX]at c
  |obj _ _=>simp[AX]at c
  |null=>exact Nr a w
  |flag b=>exact Nq a b w
  |num b=>exact O3 a b w
  |text b=>exact Ns a b w
 |num a=>cases b with
  |list _=>simp[AX]at c
  |obj _ _=>simp[AX]at c
  |null=>exact O7 a w
  |flag b=>exact O6 a b w
  |num b=>rw[QI a b w,Rn (by simpa only[Av]using e) (by simpa only[Av]using f)];simp only[BQ]
  |text b=>exact O8 a b w
 |text a=>cases b with
  |list _=>simp[AX]at c
  |obj _ _=>simp[AX]at c
  |null=>exact Ny a w
  |flag b=>exact Nx a b w
  |num b=>exact O9 a b w
  |text b=>rw[Nz a b w,P0];simp only[BQ]
theorem Hc(ks:List BY)(k:Nat):Ay (ks.take k)<=Ay ks:=by
 have:=congrArg Ay (List.take_append_drop k ks);rw[Hx]at this;omega
theorem NJ(ks:List BY)(l:List Tr)(vs:List Vl)(z:List Nat)(b:Nat)(a:Option Addr)(c:Nat)(sk:Vl)(w:Wl)(d:Ac w b [nS a vs.length c,sk] 125)(A:AK w (nS a vs.length c) 66 vs)(h:AK w sk 9 (Ad ks))(C:PsAt w l vs z)(p:∀u∈l,(Ag u).within=true)(T:l.length<=65536)(hk:ks.length=l.length)(E:Ay ks<=2097152)(y:∀u v P w',u∈l->AP w' u v P->JB v (Ag u) w'):
  Cl prog 261 #[nP (nM ⟨b,0,nN⟩)] w fun e w'=>e= nR (Jv ((Bk l).over (Ay ks)))/\Chg w w' []:=by
 have f:=KW p l.length;rw[Qn (Q8 _)]at f;have R:w.cell? ⟨b,0,nN⟩=nM (nS a vs.length c):=d.cell 0;have F:w.cell? ⟨b,1,nN⟩=nM sk:=d.cell 1;have W:=d.lt;have x:=hZ (Ld l vs z b a c w R A C p T y);obtain⟨V,kc,rfl,I⟩:=h.form;rw[Ao]at F h;have N:=hZ h;obtain⟨S,D⟩:=Ue (Bk l);rw[<-D]at f x|-;obtain⟨X,K,Y⟩:=S;simp only at f;have n1:X<=4294967296:=Zj;have n2:K<=137438953472:=Zj;have n3:Y<=512:=f.2.2;have J:Ad ks≠[]->∃g,V=nM ⟨g,0,nN⟩:=I;have O:=hZ J;have t:=hZ E;clear f D A C h p y I J E d;go_enter func261,ntmps261;go_wp2_with(first|(go_at_call 250;refine x.o.mono ?_;rintro e w1 ⟨rfl,i⟩;unfold Jv Sz.over;have aa:=i.keeps F;have ae:=Q6 W i.size;have M:=hZ i;clear i))
 go_loopw [3,20] (fun Z r wr=>∃k:Nat,k<=ks.length/\Z= nI nX (K+Ay (ks.take k))/\r= nI nX k/\Chg w wr [])
  (fun _ r _=>ks.length-(intOf r).toNat)
 case atStart=>exact⟨0,Zj,by simp[Ay],rfl,M.o⟩
 case round=>
  obtain⟨k,ad,rfl,rfl,H⟩:=hrel;have o:=Hc ks k;obtain⟨B,d⟩:=Ue (Ay (ks.take k));rw[<-d]at o|-;have n4:B<=2097152:=Q7 o t.o;have j:=hZ d;have m:=hZ H;clear o d H;by_cases U:k<ks.length
  .obtain⟨s,q⟩:∃s,ks[k]? =nM s:=⟨_,Q9 U⟩;obtain⟨g,rfl⟩:=O.o (by intro e;have Q:(Ad ks).length=0:=(by rw[e];rfl);rw[Ao]at Q;omega);have ab:wr.cell? ⟨g,k,nN⟩=nM (nG s):=m.o.keeps (N.o.cell rfl k _ (by simp[Ad,q]));have n:=FH q;have G:=Hc ks (k+1);have n5:B+s.size<=2097152:=by rw[j.o,<-n];exact Q7 G t.o
   have L:=hZ n;clear q n G;go_wp2;go_roundw
   case rel=>exact⟨k+1,Zj,by rw[L.o,<-j.o];simp;omega,by go_num,m.o⟩
   case measure=>simp[intOf];omega
  .obtain rfl:k=ks.length:=by omega
   go_wp2;refine bodyPost_ret (results_tmp3 rfl _ _ _) rfl ?_;have e:=j.o;rw[Qn (Q8 _)]at e;subst e;refine⟨?_,m.o⟩;unfold Jv Sz.over;simp;omega
theorem MD:∀(k:Nat) (t:Tr) (v:Vl) (bs:List Nat) (w:Wl),(Ag t).nodes<=k->Av t->(Ag t).within=true->AP w t v bs->JB v (Ag t) w:=by
 intro k;induction k with
 |zero=>intro t _ _ _ h;have:=Cv t;omega
 |succ k L=>
  intro t v bs w N E z d
  have j:∀u v p w',u∈Ab t->AP w' u v p->JB v (Ag u) w':=by
   intro u v p w' g F;obtain⟨i,hi⟩:=List.mem_iff_getElem?.1 g;have:=CO hi;exact L u v p w' Zj (E.items u g) (C8 z g) F
  have m:∀u∈Ab t,(Ag u).within=true:=fun u g=>C8 z g;have K:=Ar z;have A:=Bj t
  have o:∀(e:Vl) (s:BY) (b:Bool),v= nF 131 (nA #[e])->(∃M x,e= nF M x)->Ag t=⟨1,s.size,1⟩->
    (∀w,(Instr.typeAssert e 129 127 true).run prog w= .ok (nT #[nG s,.bool b]) w)->JB v (Ag t) w:=by
   intro e s b J G H I;subst J;rw[H];exact⟨_,_,VB e w,RD e s b G I w⟩
  cases t with
  |null=>
   simp only[AP]at d;exact o (AG .null) ⟨#[]⟩ false d.1 ⟨_,_,rfl⟩ rfl (fun _=>by unfold AG;kernel_rfl)
  |flag x=>
   simp only[AP]at d;exact o (AG (.flag x)) ⟨#[]⟩ false d.1 ⟨_,_,rfl⟩ rfl (fun _=>by unfold AG;kernel_rfl)
  |num n=>
   simp only[AP]at d;exact o (AG (.num n)) ⟨#[]⟩ false d.1 ⟨_,_,rfl⟩ rfl (fun _=>by unfold AG;kernel_rfl)
  |text s=>
   simp only[AP]at d;exact o (AG (.text s)) s true d.1 ⟨_,_,rfl⟩ rfl (fun _=>by unfold AG;kernel_rfl)
  |list l=>
   simp only[AP]at d;obtain⟨b,sv,vs,q,rfl,r,f,y,_⟩:=d;obtain⟨a,c,rfl,_⟩:=f.form;simp only[Ab]at A j m;exact⟨_,_,VC b w,Ld l vs q b a c w (r.cell 0) f y m Zj j⟩
  |obj ks l=>
   simp only[AP]at d;obtain⟨b,sv,sk,vs,q,rfl,r,f,B,C,y,_⟩:=d;obtain⟨a,c,rfl,_⟩:=f.form;simp only[Ab]at A j m;have D:Ay ks<=2097152:=by have:=K.2.1;simp only[Ag,Sz.over]at this;omega
   exact⟨_,_,Se b w,NJ ks l vs q b a c sk w r f B y m Zj C D j⟩
end
section
open Go Go.RowKit Tree Ptr
theorem ea(k:Nat)(p f:BY)(x:Tr):∃ks l,Ze k p f x= .obj ks l/\ks.length=l.length/\l.length<=3/\Ay ks<=20:=by
 unfold Ze;split
 .exact⟨_,_,rfl,rfl,Q8 _,ZM⟩
 .split
  .exact⟨_,_,rfl,rfl,Q8 _,ZM⟩
  .exact⟨_,_,rfl,rfl,Zh,ZM⟩
theorem eh{k:Nat}{p f:BY}{x:Tr}{v:Vl}{bs:List Nat}{w:Wl}(d:∀u∈Ab (Ze k p f x),Av u/\(Ag u).within=true)(h:AP w (Ze k p f x) v bs):JB v (Ag (Ze k p f x)) w:=by
 obtain⟨ks,l,e,t,y,z⟩:=ea k p f x;rw[e]at d h|-;simp only[AP]at h;obtain⟨b,sv,sk,vs,m,rfl,n,i,q,r,o,_⟩:=h;obtain⟨a,c,rfl,_⟩:=i.form;simp only[Ab]at d;exact⟨_,_,Se b w,NJ ks l vs m b a c sk w n i q o (fun u g=>(d u g).2) Zj r Zj (fun u v j w' g s=>MD _ u v j w' (Q8 _) (d u g).1 (d u g).2 s)⟩
end
section
open _root_.Go.Proofs.Tryz
open Go Go.RowKit Tree Ptr
variable{s:BY}{L:List Ap}{ks:List BY}{bs:List Nat}{l:List Tr}{i k m n:Nat}{G:Nat->Prop}{p:Prop}{u:Tr}{b sk sv:Vl}{c w:Wl}
theorem Ft{P:Program}{c:Array Oper}{rest:List Oper}{o:Oper}{a:Act}{Q:Exit->Act->Wl->Prop}(k:o.guard=nN)(r x:Operand)(b:String)(s:Array Ti)(m:o.op= .call {callee:= .invoke r b,args:=#[x],argTypes:=s})(v u:Vl)(p:a.eval r=v)(q:a.eval x=u)(f:FuncId)(args:Array Vl)(l:(callMethod v b #[u]).run P w= .ok (.enter f args) w)(R:Ending->Wl->Prop)(i:Cl P f args w R)(g:∀e w2,R e w2->∃u,e= nR u/\wpList P c Q rest (a.put o.dst u) w2):wpList P c Q (o::rest) a w:=by
 refine wpList_plain k fun K d=> ?_;unfold Oper.wp
 have j:(execOp a.eval o).run P w= .ok (.enter f args) w:=by
  simp[execOp,m,resolve,invoke,p,q,l]
 rw[j];refine i.mono fun e w2 h=> ?_;obtain⟨u,rfl,n⟩:=g e w2 h;exact d _ _ n
theorem GZ(v sv:Vl)(w:Wl):(callMethod (nF 131 (nA #[v])) EB #[sv]).run prog w= .ok (.enter 267 #[nA #[v],sv]) w:=Yb
theorem TW(b:Nat)(sv:Vl)(w:Wl):(callMethod (nF 71 (nP (nM ⟨b,0,nN⟩))) EB #[sv]).run prog w= .ok (.enter 251 #[nP (nM ⟨b,0,nN⟩),sv]) w:=Yb
theorem PH(b:Nat)(sv:Vl)(w:Wl):(callMethod (nF 123 (nP (nM ⟨b,0,nN⟩))) EB #[sv]).run prog w= .ok (.enter 262 #[nP (nM ⟨b,0,nN⟩),sv]) w:=Yb
def LQ(v:Vl)(t:Tr)(bs:List Nat)(w:Wl):Prop:=∀(G:Nat->Prop) (sv:Vl) (n:Nat) (l:List Ap) (xs:List Vl),Nj bs G sv n l xs w->n+(Ag t).nodes<=4294967296->
 ∃f args,(callMethod v EB #[sv]).run prog w= .ok (.enter f args) w/\Cl prog f args w (CJ G sv n (Ag t).nodes (l++MW t) w)
theorem VK(h:l[k]? =nM u):KH (l.take (k+1))=KH (l.take k)++MW u:=by
 unfold KH MW;rw[EA h,List.map_append]
theorem NO(h:l[k]? =nM u):(Bk (l.take k)).nodes+(Ag u).nodes<=(Bk l).nodes:=by
 have a:=M4 l (k+1);rw[BM h]at a;exact a
theorem I4(l:List Tr)(vs:List Vl)(N bs:List Nat)(b:Nat)(a:Option Addr)(c:Nat)(w:Wl)(hb:w.cell? ⟨b,0,nN⟩=nM (nS a vs.length c))(S:AK w (nS a vs.length c) 66 vs)(B:PsAt w l vs N)(T:∀x,x∈b::((Vl.slice a vs.length c).ownBlock.toList++N)->x∈bs)(t:∀x,x∈bs->x<w.heap.size)(hl:l.length<=65536)(G:Nat->Prop)(sv:Vl)(n:Nat)(L:List Ap)(xs:List Vl)(W:Nj bs G sv n L xs w)(hn:n+(Bk l).nodes<=4294967296)(M:∀u v i w',u∈l->AP w' u v i->(∀x,x∈i->x<w'.heap.size)->LQ v u i w'):
  Cl prog 253 #[nP (nM ⟨b,0,nN⟩),sv] w (CJ G sv n (Bk l).nodes (L++KH l) w):=by
 have ak:=B.length;have lb:=World.block_lt_of_cell? w _ hb;have K:=hZ S;have HP:=hZ B;have HI:=hZ M;have r:=hZ W;have J:=hZ T;have z:=hZ t;clear S B M W T t;go_enter func253,ntmps253;go_wp2
 go_loopw [1,12] (fun d H wr=>∃(k:Nat) (p:Vl),k<=vs.length/\p=d/\H= nI nX k/\CJ G sv n (Bk (l.take k)).nodes (L++KH (l.take k)) w (nR p) wr)
  (fun _ H _=>vs.length-(intOf H).toNat)
 case atStart=>exact⟨0,sv,Zj,rfl,rfl,by have:=CJ.same r.o cR;simpa[Bk,KH,BI]using this⟩
 case round=>
  obtain⟨k,p,hk,rfl,rfl,C⟩:=hrel;obtain⟨v0,G',al,A,X,O,P,Q,R⟩:=CJ.inn r.o z.o C;injection A with A
  subst A;have HS:=hZ C;have aa:=hZ X;have q:=hZ O;have H4:=hZ P;have H5:=hZ Q;have H6:=hZ R;clear C X O P Q R;by_cases t:k<vs.length
  .have E:k<l.length:=by omega
   obtain⟨u,j⟩:∃u,l[k]? =nM u:=⟨_,Q9 E⟩;obtain⟨v,i,hv,Y,U⟩:=HP.o.get j
   obtain⟨g,rfl⟩:∃g,a=nM ⟨g,0,nN⟩:=by
    obtain⟨a',c',e,h⟩:=K.o.form;injection e with e1
    subst e1;exact h (by intro e;subst e;simp at t)
   have D:g∈bs:=J.o g (by simp[Vl.ownBlock]);have ai:wr.cell? ⟨g,k,nN⟩=nM v:=(q.o.cell (z.o g D) (fun y=>(r.o.own g (by simpa using y)).1 D)).trans (K.o.cell rfl k v hv);have s:∀x,x∈i->x∈bs:=fun x o=>J.o x (by simp[U x o]);have F:=Y.chg q.o (fun x o ah=>(r.o.own x (by simpa using o)).1 (s x ah));have Z:=Qi j;obtain⟨ti,x,rfl⟩:=F.iface;have ag:=NO j;obtain⟨f,args,y,V⟩:=HI.o u _ i wr Z F (fun x o=>Q6 (z.o x (s x o)) q.o.size) G' p _ _ _ (aa.o.sub s) Zj
   have af:Cl prog f args wr fun e I=>∃d,e= nR d/\CJ G sv n (Bk (l.take (k+1))).nodes (L++KH (l.take (k+1))) w (nR d) I:=by
    refine V.mono fun e I m=> ?_;have ae:=CJ.step H5.o H6.o q.o H4.o m;rw[BM j,VK j,<-List.append_assoc];obtain⟨d,G1,am,he,aj⟩:=m;subst he;exact⟨d,rfl,ae⟩
   have ab:=hZ y;clear y hv Y F j Z ag s U D V
   go_wp2_with(first
    |(refine Ft rfl _ _ _ _ rfl (nF ti x) p ZN ZN f args ab.o _ af ?_;rintro e I ⟨d,rfl,m⟩;refine⟨_,rfl, ?_⟩;have ad:=hZ m;clear m))
   go_roundw
   case rel=>exact⟨k+1,_,Zj,rfl,by go_num,ad.o⟩
   case measure=>simp[intOf];omega
  .go_wp2;go_ret;have E:l.take k=l:=Qn Zj;have:=HS.o;rwa[E]at this
structure I9(bs:List Nat)(G:Nat->Prop)(sv:Vl)(n:Nat)(L:List Ap)(w:Wl)(v1:Vl)(w1:Wl):Prop where
 ex:∃G1 xs1,Nj bs G1 v1 n L xs1 w1/\(∀b,G b->G1 b)/\(∀b,G1 b->b<w.heap.size->G b)
 chg:Chg w w1 sv.ownBlock.toList
 own:∀g,v1.ownBlock=nM g->sv.ownBlock=nM g\/w.heap.size<=g
theorem I9.of{l f:List Ap}{xs:List Vl}{i w':Wl}{e:Ending}(t:Nj bs G sv n l xs w)(s:∀b,b∈bs->b<w.heap.size)(a:Chg w i [])(h:CJ G sv n m f i e w'):
  ∃c,e= nR c/\I9 bs G sv (n+m) f w c w':=by
 obtain⟨c,j,x,rfl,k,o,p,q,r⟩:=CJ.inn (t.kept a) (fun b v=>Q6 (s b v) a.size) h;refine⟨c,rfl,⟨⟨j,x,k,q,fun b d u=>r b d (Q6 u a.size)⟩,(a.none _).trans o,fun g d=> ?_⟩⟩;rcases p g d with h|h
 .exact .inl h
 .exact .inr (Q7 a.size h)
theorem I9.kept{w2:Wl}(h:I9 bs G sv n L w b c)(a:Chg c w2 []):I9 bs G sv n L w b w2:=by
 obtain⟨⟨d,k,e,f,g⟩,i,j⟩:=h;exact⟨⟨d,k,e.kept a,f,g⟩,i.trans (a.none _),j⟩
theorem I9.slots{e:Wl}(h:I9 bs G sv n L w b e):∃a c,b= nS a n c:=by
 obtain⟨⟨f,g,d,_⟩,_⟩:=h;exact d.lst.slots
theorem XQ(l:List Tr):MW (.list l)=KH l++[(Aa (.list l)).toI]:=by unfold MW KH;simp[Ai]
theorem YT(ks:List BY)(l:List Tr):MW (.obj ks l)=KH l++[(Aa (.obj ks l)).toI]:=by unfold MW KH;simp[Ai]
theorem Ff(w:Wl)(cs:List Vl)(T:Ti):∀j v,cs[j]? =nM v->(w.alloc (nC cs.toArray T)).cell? ⟨w.heap.size,j,nN⟩=nM v:=fun j v a=>((Ac.new w cs T).cell j).trans a
theorem I9.put{k:Wl}{e:Option Addr}{c1:Nat}{s:Ap}{g cap:Nat}(h:I9 bs G sv (n+m) L w (nS e (n+m) c1) c)(a:∀b,b∈bs->b<w.heap.size){x:List Vl}{d G2:Nat->Prop}(z:Nj bs d (nS e (n+m) c1) (n+m) L x c)(A:∀b,G b->d b)(B:∀b,d b->b<w.heap.size->G b)(E:Ba k (nS (nM ⟨g,0,nN⟩) (n+m+1) cap) 55 6 (n+m+1) (x++AI s sk))(l:Chg c k (Vl.slice e (n+m) c1).ownBlock.toList)(t:(Vl.slice e (n+m) c1).ownBlock=nM g\/c.heap.size<=g)(I:Ba c sk 9 1 s.keys.length (Ad s.keys))(u:SE G2 sk)(q:∀b,d b->G2 b)(D:∀b,G2 b->b<w.heap.size->d b)(p:∀b,G2 b->b<c.heap.size)(v:∀g,(Vl.slice e (n+m) c1).ownBlock=nM g->¬G2 g):
  CJ G sv n (m+1) (L++[s]) w (nR (nS (nM ⟨g,0,nN⟩) (n+m+1) cap)) k:=by
 have J:=h.chg.size;have r:i3 G2 c k:=l.keepsB p (fun b a F=>v b (by simpa using a) F);refine⟨_,G2,_,rfl,by rw[<-Nat.add_assoc];exact E,((z.at_.kept (fun _ _=>rfl) q).kept r (fun _ h=>h)).append (KS s sk (I.keptF u r) u),h.chg.step l fun j H o=> ?_, ?_,fun b a=>q b (A b a),fun b a o=>B b (D b a o) o,fun b a=>Q6 (p b a) l.size, ?_⟩
 .rcases h.own j (by simpa using H)with h|h
  .simpa using h
  .omega
 .intro y i;simp[Vl.ownBlock]at i;subst i;rcases t with f|f
  .exact h.own _ f
  .exact .inr Zj
 .intro y i;simp[Vl.ownBlock]at i;subst i;rcases t with f|f
  .exact v _ f
  .intro C;have:=p _ C;omega
theorem yN(h:p:=by simpa using d):p:=h
theorem Pm(l:List Tr)(vs:List Vl)(t:List Nat)(b:Nat)(a:Option Addr)(c:Nat)(w:Wl)(T:Ac w b [nS a vs.length c] 74)(hL:AK w (nS a vs.length c) 66 vs)(V:PsAt w l vs t)(hl:l.length<=65536)(G:Nat->Prop)(sv:Vl)(n:Nat)(L:List Ap)(xs:List Vl)(r:Nj (b::((Vl.slice a vs.length c).ownBlock.toList++t)) G sv n L xs w)(hn:n+(Ag (.list l)).nodes<=4294967296)(B:∀x,x∈b::((Vl.slice a vs.length c).ownBlock.toList++t)->x<w.heap.size)(IH:∀u v S w',u∈l->AP w' u v S->(∀x,x∈S->x<w'.heap.size)->LQ v u S w'):
  Cl prog 251 #[nP (nM ⟨b,0,nN⟩),sv] w (CJ G sv n (Ag (.list l)).nodes (L++MW (.list l)) w):=by
 have aj:=V.length;have ai:(Ag (.list l)).nodes=(Bk l).nodes+1:=by simp only[Ag,Sz.over];omega
 rw[ai]at hn|-;obtain⟨P,K⟩:=Ue (b::((Vl.slice a vs.length c).ownBlock.toList++t));rw[<-K]at r B;have O:w.cell? ⟨b,0,nN⟩=nM (nS a vs.length c):=T.cell 0;have lb:=T.lt;have W:b∈P:=by rw[K];simp
 have ag:b∉sv.ownBlock.toList:=fun d=>(r.own b yN).1 W;have ak:w.heap.size∉sv.ownBlock.toList:=fun d=>by have:=r.lst.lt yN;omega
 have R:=UD (∀H,Chg w H []->Cl prog 253 #[nP (nM ⟨b,0,nN⟩),sv] H fun e f=>∃E,e= nR E/\I9 P G sv (n+(Bk l).nodes) (L++KH l) w E f/\Chg H f sv.ownBlock.toList) fun H s=>
  (I4 l vs t P b a c H (s.keeps O) (hL.kept s) (V.chg s Zh) (fun x X=>by rw[K];exact X) (fun x X=>Q6 (B x X) s.size) hl G sv n L xs (r.kept s) Zj IH).mono fun e f h=>by
   obtain⟨E,he,d⟩:=I9.of r B s h;obtain⟨_,_,_,_,_,_,hc,_⟩:=h;exact⟨E,he,d,hc⟩
 have al:=hZ ag;have aq:=hZ ak;have Z:=hZ W;have an:=hZ B;have k:=UD ((n+(Bk l).nodes+1)*72<=140737488355328/\n+(Bk l).nodes<=140737488355328) ⟨Zj,Zj⟩;have ap:=hZ aj;clear T hL V r B IH ai W ag ak K hn aj;obtain⟨M,hM⟩:=Ue ((Bk l).nodes);rw[<-hM]at R k|-;obtain⟨N,U⟩:=Ue (n+M);rw[<-U]at R k;have ao:=hZ U;clear U hM;go_enter func251,ntmps251;go_wp2_with fail
 go_region_held3(fun w'=>w'.cell? ⟨b,0,nN⟩=nM (nS a vs.length c)) (first|exact O|exact q|exact af|exact(fun h:Chg f _ []=>h.keeps q) yF|exact(fun h:Chg w _ []=>h.keeps O) yF)
  (first
   |(go_at_call 253;refine(R.o _ yF).mono ?_;rintro e f ⟨E,rfl,d,ah⟩;obtain⟨m,c1,rfl⟩:=d.slots;have q:=(d.chg.cell lb al.o).trans O;have Q:=hZ d;have am:=hZ ah;clear d ah)
   |(obtain⟨G1,Y,i,C,D⟩:=Q.o.ex;(refine Bw rfl _ _ _ rfl 55 Iq 6 72 ZM underlying22 DM rfl (nS m N c1) N Y ZN (by exact i.lst.kept (bs:=[]) yF Zh) f.heap.size (AI ⟨5,false,0,Dz,vs.length,[]⟩ (nS nN 0 0)) ZN ZN (by exact Ff _ _ _) (C0 _ _ _ _) k.o.1 k.o.2 ?_);intro g cap F A y z;have ab:=hZ A;have I:=UD (Chg f F (Vl.slice m N c1).ownBlock.toList) ((((Chg.refl f []).alloc _).none _).trans y);have aa:=UD ((Vl.slice m N c1).ownBlock=nM g\/f.heap.size<=g) (z.imp id (fun h=>by rw[World.size_alloc]at h;omega));have J:=hZ i;have ad:=hZ C;have ae:=hZ D;have af:F.cell? ⟨b,0,nN⟩=nM (nS a vs.length c):=(I.o.cell (World.block_lt_of_cell? f _ q) (fun d=>(i.own b yN).1 Z.o)).trans q;clear A y z i C D)
   |(obtain⟨G1,Y,i,C,D⟩:=Q.o.ex;(refine Bw rfl _ _ _ rfl 55 Iq 6 72 ZM underlying22 DM rfl (nS m N c1) N Y ZN (by exact i.lst.kept (bs:=[]) yF Zh) w.heap.size (AI ⟨5,false,0,Dz,vs.length,[]⟩ (nS nN 0 0)) ZN ZN (by intro j v hv;exact(am.o.cell (p:=⟨w.heap.size,j,nN⟩) Zh aq.o).trans (Ff _ _ _ j v hv)) (C0 _ _ _ _) k.o.1 k.o.2 ?_);intro g cap F A y z;have ab:=hZ A;have I:=UD (Chg f F (Vl.slice m N c1).ownBlock.toList) y;have aa:=UD ((Vl.slice m N c1).ownBlock=nM g\/f.heap.size<=g) (z.imp id (fun h=>Nat.le_of_eq h.symm));have J:=hZ i;have ad:=hZ C;have ae:=hZ D;have af:F.cell? ⟨b,0,nN⟩=nM (nS a vs.length c):=(I.o.cell (World.block_lt_of_cell? f _ q) (fun d=>(i.own b yN).1 Z.o)).trans q;clear A y z i C D))
 all_goals
  go_wp2_with fail;go_ret;have e:=ao.o;subst e;rw[XQ,<-List.append_assoc];have hs:(Aa (.list l)).toI=⟨5,false,0,Dz,vs.length,[]⟩:=by rw[ap.o];rfl
  rw[hs];exact I9.put Q.o an.o J.o ad.o ae.o ab.o I.o aa.o (Ba.nil _ _ _) (fun b o n c e=>by cases e) (fun _ h=>h) (fun _ h _=>h) J.o.ltG (fun g hg=>(J.o.own g hg).2)
def KP(ks:List BY)(w:Wl)(e:Ending)(w':Wl):Prop:=∃sk,e= nR sk/\AK w' sk 9 (Ad ks)/\BP w sk.ownBlock.toList/\Chg w w' []
theorem M0(h:ks[i]? =nM s):Ad (ks.take i)++[nG s]=Ad (ks.take (i+1)):=by
 rw[List.take_add_one,h];simp[Ad]
theorem Rq(F:Nat->Prop)(ks:List BY)(l:List Tr)(vs:List Vl)(N:Option Addr)(c:Nat)(w:Wl)(J:ks.length=l.length)(H:Dc w F l vs)(K:LP w F N (Kp ks vs))(hn:l.length<=65536):
  Cl prog 75 #[nS N l.length c] w (KP ks w):=by
 have S:=hZ K;have p:=hZ J;have U:=hZ H;clear K J H;go_enter func75,ntmps75;go_wp2;go_loopw [3,8] (fun Z z wr=>∃(i:Nat) (n:Vl),i<=l.length/\z= nI nX i/\n=Z/\AK wr n 9 (Ad (ks.take i))/\BP w n.ownBlock.toList/\Chg w wr []) (fun _ z _=>l.length-(intOf z).toNat)
 case atStart=>exact⟨0,_,Zj,rfl,rfl,AK.nil _ _,BP.nil _,by exact cg cR⟩
 case round=>
  obtain⟨i,n,hi,rfl,rfl,a,m,d⟩:=hrel;by_cases X:i<l.length
  .obtain⟨s,y⟩:∃s,ks[i]? =nM s:=⟨_,Q9 (by have:=p.o;omega)⟩;obtain⟨v,L,M⟩:=U.o.get i _ (Q9 X);obtain⟨Y,x,rfl⟩:=M.iface;obtain⟨k,C⟩:=Mi y L;rcases S.o with V|⟨b,o,rfl,aa,t⟩
   .rw[V]at k;simp at k
   have r:o+i*2=o+2*i:=Zj;have c0:wr.cell? ⟨b,o+i*2,nN⟩=nM (nG s):=by rw[r];exact d.keeps (t _ _ k)
   have c1:wr.cell? ⟨b,o+i*2+1,nN⟩=nM (nF Y x):=by rw[r];exact d.keeps (t _ _ C)
   obtain⟨e,f,rfl,_⟩:=a.form;have u:(Ad (ks.take i)).length=i:=by rw[Ao,Ql];have:=p.o;omega
   rw[u]at a m|-;have O:=hZ a;have A:=hZ m;have B:=hZ d;have T:=hZ y;have q:=hZ u;clear a m d y L M k C t u r
   go_wp2_with(first
    |(refine AM rfl _ _ _ rfl 9 (nG ⟨#[]⟩) 16 underlying27 Cf rfl (nS e i f) (Ad (ks.take i)) ZN (by exact O.o.kept (bs:=[]) yF Zh) (wr.heap.size+1) (nG s) ZN (by exact Bx Zh _ _) rfl (by rw[q.o];omega) (by rw[q.o];omega) ?_;rw[q.o];intro g cap w7 G D E;have R:=hZ G;have P:=UD (Chg wr w7 (Vl.slice e i f).ownBlock.toList) (ct ((Chg.refl wr []).none _) D);have Q:=UD ((Vl.slice e i f).ownBlock=nM g\/wr.heap.size<=g) (E.imp id (fun h=>by simp at h;omega));clear G D E))
   go_roundw
   case rel=>
    refine⟨i+1,_,Zj,by go_num,rfl,by rw[<-M0 T.o];exact R.o,⟨by simp[Vl.ownBlock],fun b I=> ?_⟩,B.o.step P.o fun j W hl=> ?_⟩
    .simp[Vl.ownBlock]at I;subst I;rcases Q.o with h|h
     .exact A.o.ge _ (by simp[h])
     .have:=B.o.size;omega
    .have:=A.o.ge j W;omega
   case measure=>simp[intOf];omega
  .have ab:i=l.length:=by omega
   rw[Qn (by have:=p.o;omega)]at a;obtain⟨e,f,rfl,_⟩:=a.form;go_wp2;go_ret;exact⟨_,rfl,a,m,d⟩
theorem Jh:(prog.info? 66).map (fun i=>(i.zero,i.size,i.bytes))=nM (nM .nilIface,1,16):=Yb
theorem yE(h:p:=by go_enter func42,ntmps42;go_wp2;go_ret;exact⟨_,[],rfl,⟨rfl,rfl⟩,BP.nil _,by exact ot⟩):p:=h
theorem yG(h:p:=by
 refine Chg.setCell ((ae.o.trans J.o).step Q.o fun j hj hl=> ?_) _ _ (fun hl=> ?_)
 .have:=S.o.new.ge j (Qd _ (Qe _ hj));omega
 .exact absurd hl (by have:=Z.o.ge B Zh;simp;omega)):p:=h
theorem yM(h:p:=by exact(S.o.lst.kept J.o).kept (bs:=[]) (by exact ot) Zh):p:=h
theorem yO(h:p:=by rw[U.o];omega):p:=h
theorem yP(h:p:=by exact Bx rfl _ _):p:=h
theorem ab:∀(k:Nat) (t:Tr) (F:Nat->Prop) (v:Vl) (w:Wl),(Ag t).nodes<=k->(Ag t).nodes<=65536->Hm w F t v->(∀b,F b->b<w.heap.size)->Cl prog 42 #[v] w (SF t w):=by
 intro k;induction k with
 |zero=>intro t _ _ _ h;have:=Cv t;omega
 |succ k ih=>
  intro t F v w hk aU r hF;have aQ:=Bj t
  have aa:∀u v w',u∈Ab t->Hm w' F u v->(∀b,F b->b<w'.heap.size)->Cl prog 42 #[v] w' (SF u w'):=by
   intro u v w' C a4 a0;obtain⟨i,hi⟩:=List.mem_iff_getElem?.1 C;have:=CO hi;exact ih u F v w' Zj Zj a4 a0
  clear ih;cases t
  case null=>
   simp only[Hm]at r;subst r;simp only[AG];have ai:∀(w:Wl),(Instr.typeAssert (nF 188 (nA #[])) 95 92 true).run prog w= .ok (nT #[nS nN 0 0,.bool false]) w:=fun _=>Yb;have ao:∀(w:Wl),(Instr.typeAssert (nF 188 (nA #[])) 95 100 true).run prog w= .ok (nT #[nS nN 0 0,.bool false]) w:=fun _=>Yb;have aC:∀(w:Wl),(Instr.typeAssert (nF 188 (nA #[])) 95 129 false).run prog w= .ok (nF 188 (nA #[])) w:=fun _=>Yb;exact yE
  case flag x=>
   simp only[Hm]at r;subst r;simp only[AG];have ai:∀(w:Wl),(Instr.typeAssert (nF 189 (.bool x)) 95 92 true).run prog w= .ok (nT #[nS nN 0 0,.bool false]) w:=fun _=>Yb;have ao:∀(w:Wl),(Instr.typeAssert (nF 189 (.bool x)) 95 100 true).run prog w= .ok (nT #[nS nN 0 0,.bool false]) w:=fun _=>Yb;have aC:∀(w:Wl),(Instr.typeAssert (nF 189 (.bool x)) 95 129 false).run prog w= .ok (nF 189 (.bool x)) w:=fun _=>Yb;exact yE
  case num x=>
   simp only[Hm]at r;subst r;simp only[AG];have ai:∀(w:Wl),(Instr.typeAssert (nF 190 (.float .f64 x)) 95 92 true).run prog w= .ok (nT #[nS nN 0 0,.bool false]) w:=fun _=>Yb;have ao:∀(w:Wl),(Instr.typeAssert (nF 190 (.float .f64 x)) 95 100 true).run prog w= .ok (nT #[nS nN 0 0,.bool false]) w:=fun _=>Yb;have aC:∀(w:Wl),(Instr.typeAssert (nF 190 (.float .f64 x)) 95 129 false).run prog w= .ok (nF 190 (.float .f64 x)) w:=fun _=>Yb;exact yE
  case text x=>
   simp only[Hm]at r;subst r;simp only[AG];have ai:∀(w:Wl),(Instr.typeAssert (nF 127 (nG x)) 95 92 true).run prog w= .ok (nT #[nS nN 0 0,.bool false]) w:=fun _=>Yb;have ao:∀(w:Wl),(Instr.typeAssert (nF 127 (nG x)) 95 100 true).run prog w= .ok (nT #[nS nN 0 0,.bool false]) w:=fun _=>Yb;have aC:∀(w:Wl),(Instr.typeAssert (nF 127 (nG x)) 95 129 false).run prog w= .ok (nF 127 (nG x)) w:=fun _=>Yb;exact yE
  case list d=>
   simp only[Hm]at r;obtain⟨sl,vv,rfl,X,hi⟩:=r;obtain⟨T,c,rfl,aP⟩:=X.cell;have ad:=hi.length;rw[ad]at X|-;simp only[Ab]at aQ aa;have aT:d.length<=65536:=Zj;have aZ:=hZ ad;have ai:∀(w:Wl),(Instr.typeAssert (nF 92 (nS T d.length c)) 95 92 true).run prog w= .ok (nT #[nS T d.length c,.bool true]) w:=fun _=>Yb;have R:=hZ hi;have HK:=hZ aa;have M:=hZ hF;have HC:=hZ aP;clear hi aa hF aP X aU hk ad;go_enter func42,ntmps42;go_wp2_with fail;obtain⟨B,N⟩:=Ue w.heap.size;obtain⟨I,D⟩:=Ue (w.alloc (nC #[nS nN 0 0] 74));have ap:Hid (Ac I B [nS nN 0 0] 74):=by rw[D,N];exact hZ (Ac.new w _ _)
   have av:Hid (Chg w I []):=by rw[D];exact hZ ((Chg.refl w []).alloc _)
   have Z:=UD (BP w [B]) ⟨Zh,fun b a=>by simp at a;omega⟩;have a9:B<I.heap.size:=by rw[D,N];simp
   have az:=UD (GD w I [B] [] (nS nN 0 0) [] []) (GD.nil Z.o (fun b a=>by simp at a;omega));rw[<-D,<-N];clear D N;go_loopw [19] (fun aL wr=>∃(i:Nat) (sv:Vl) (vs:List Vl) (A:List Nat),i<=d.length/\aL= nI nX i/\Ac wr B [sv] 74/\GD w wr [B] (d.take i) sv vs A/\Chg w wr []) (fun aL _=>d.length-(intOf aL).toNat)
   case atStart=>exact⟨0,_,[],[],Zj,rfl,ap.o,by simpa using az.o,av.o⟩
   case round=>
    obtain⟨i,sv,vs,A,a3,rfl,q,f,m⟩:=hrel;by_cases al:i<d.length
    .obtain⟨u,C⟩:∃u,d[i]? =nM u:=⟨_,Q9 al⟩;obtain⟨vu,O,V⟩:=R.o.get i u C;obtain⟨ti,xi,rfl⟩:=V.iface;obtain⟨vb,vo,rfl,a1,ak⟩:=HC.o i _ O;have a8:=m.keeps ak;have am:=Qi C;have O:=Hm.kept (m.keepsF M.o) (fun _ h=>h) _ _ V;have R:=UD (∀o,Chg wr o []->Cl prog 42 #[nF ti xi] o (fun e l=>∃H p,e= nR H/\AP l u H p/\BP wr p/\Chg wr l [])) fun o n=>(HK.o u _ o am (Hm.kept (n.keepsF (fun b a=>Q6 (M.o b a) m.size)) (fun _ h=>h) _ _ O) (fun b a=>Q6 (M.o b a) (Q7 m.size n.size))).mono fun e l ⟨H,p,e1,E,P,G⟩=>⟨H,p,e1,E,P.of_le n.size,n.trans G⟩;obtain⟨z,c0,rfl,_⟩:=f.lst.form;have Y:vs.length=i:=by rw[f.at_.length,Ql];omega
     rw[Y]at f q;have aj:=q.cell 0;have aq:=UD (B∉(Vl.slice z i c0).ownBlock.toList) fun K=>f.new.apart B Zh (Qe _ K);have S:=hZ f;have ar:=hZ q;have ae:=hZ m;have aA:=hZ C;have U:=hZ Y;have aD:wr.cell? ⟨B,0,nN⟩=nM (nS z i c0):=aj;clear f q m C V O am Y aj;go_wp2_with fail
     go_region_law
      (first
       |(go_simp;go_at_call 42;refine(R.o _ (by exact ot)).mono ?_;rintro e l ⟨H,p,rfl,E,P,G⟩;obtain⟨aK,x1,rfl⟩:=E.iface;have aJ:=G.keeps aD;have a6:=World.block_lt_of_cell? l _ aJ;have K2:=hZ E;have K3:=hZ P;have J:=hZ G;clear E P G)
       |(go_loud(refine Df rfl _ _ _ rfl 66 .nilIface 16 underlying72 Jh rfl (nS z i c0) vs ZN yM l.heap.size (nF aK x1) ZN yP rfl yO yO ?_;rw[U.o];intro g cap w7 ah af ag;have ay:=hZ ah;have Q:=UD (Chg l w7 (Vl.slice z i c0).ownBlock.toList) ((((Chg.refl l []).alloc _).none _).trans af);have aw:=UD ((Vl.slice z i c0).ownBlock=nM g\/l.heap.size<=g) (ag.imp id (fun h=>by rw[World.size_alloc]at h;omega));have L:=hZ ((ar.o.kept J.o).kept Q.o aq.o);have a5:=L.o.cell 0;have a2:∀j,w7.frozen? ⟨B,j,nN⟩=false:=(fun j=>L.o.frozen j);have a7:=L.o.lt;clear ah af ag)))
     all_goals
      go_wp2_with fail;go_roundw
      case rel=>
       have W:=S.o.push K2.o K3.o J.o ay.o Q.o aw.o ae.o.size;rw[<-Cb aA.o]at W;have aE:B∉(Vl.slice (nM ⟨g,0,nN⟩) (i+1) cap).ownBlock.toList++(A++p):=W.new.apart B Zh;refine⟨i+1,_,_,_,Zj,by go_num,L.o.set 0 _,W.kept (cs:=[B]) ((Chg.refl _ _).setCell _ _ Zh) (fun b a=>by simp at a;subst a;exact aE), ?_⟩;exact yG
      case measure=>simp[intOf];omega
    .have aF:i=d.length:=by omega
     rw[aF,Qn (Q8 _)]at f;go_wp2;go_ret;exact⟨_,B::(sv.ownBlock.toList++A),rfl,by simp only[AP];exact⟨B,sv,vs,A,rfl,q,f.lst,f.at_,rfl⟩,by simpa using f.new,m⟩
  case obj kk d=>
   simp only[Hm]at r;obtain⟨T,c,vv,rfl,aI,X,hi⟩:=r;have ad:=hi.length;simp only[Ab]at aQ aa;have aT:d.length<=65536:=Zj;have aZ:=hZ ad;have ai:∀(w:Wl),(Instr.typeAssert (nF 100 (nS T d.length c)) 95 92 true).run prog w= .ok (nT #[nS nN 0 0,.bool false]) w:=fun _=>Yb;have ao:∀(w:Wl),(Instr.typeAssert (nF 100 (nS T d.length c)) 95 100 true).run prog w= .ok (nT #[nS T d.length c,.bool true]) w:=fun _=>Yb;have R:=hZ hi;have HK:=hZ aa;have M:=hZ hF;have HC:=hZ X;clear hi aa hF aU hk ad;have aW:=UD (∀o,Chg w o []->Cl prog 75 #[nS T d.length c] o (KP kk o)) fun o n=>Rq F kk d vv T c o aI (Dc.kept (n.keepsF M.o) (fun _ h=>h) _ _ R.o) (X.kept (n.keepsF M.o) (fun _ h=>h)) aT;clear X;go_enter func42,ntmps42
   go_wp2_with(first
    |(go_at_call 75;refine(aW.o _ (by exact ot)).mono ?_;rintro e w0 ⟨sk,rfl,aG,aR,aS⟩;obtain⟨ka,kc,rfl,_⟩:=aG.form;have an:=hZ aG;have ax:=hZ aR;have aN:=hZ (Chg.trans (b:=_) (by exact ot) aS);clear aG aR aS))
   obtain⟨y,aB⟩:=Ue (Vl.slice ka (Ad kk).length kc);obtain⟨B,N⟩:=Ue w0.heap.size;obtain⟨I,D⟩:=Ue (w0.alloc (nC #[nS nN 0 0,y] 125));have ap:Hid (Ac I B [nS nN 0 0,y] 125):=by rw[D,N];exact hZ (Ac.new w0 _ _)
   have au:Hid (Chg w0 I []):=by rw[D];exact hZ ((Chg.refl w0 []).alloc _)
   have av:=UD (Chg w I []) (aN.o.trans au.o);rw[<-aB]at an ax;have aV:=UD (AK I y 9 (Ad kk)) (an.o.kept au.o)
   have Z:Hid (BP w (B::y.ownBlock.toList)):=by
    have hz:=aN.o.size;have al:=an.o.ltB;refine hZ ⟨List.nodup_cons.2 ⟨fun K=> ?_,ax.o.nodup⟩,fun b a=> ?_⟩
    .have:=al B K;omega
    .rcases Qh.1 a with rfl|a
     .omega
     .exact ax.o.ge b a
   have aY:Hid (∀b,b∈B::y.ownBlock.toList->b<I.heap.size):=by
    refine hZ fun b a=> ?_;have hz:=au.o.size;rcases Qh.1 a with rfl|a
    .rw[D,N];simp
    .have:=an.o.ltB b a;omega
   have az:=UD (GD w I (B::y.ownBlock.toList) [] (nS nN 0 0) [] []) (GD.nil Z.o aY.o);rw[<-aB,<-D,<-N];have aO:=hZ aI;clear D N aB aI;go_loopw [46] (fun aM wr=>∃(i:Nat) (sv:Vl) (vs:List Vl) (A:List Nat),i<=d.length/\aM= nI nX i/\Ac wr B [sv,y] 125/\AK wr y 9 (Ad kk)/\GD w wr (B::y.ownBlock.toList) (d.take i) sv vs A/\Chg w wr []) (fun aM _=>d.length-(intOf aM).toNat)
   case atStart=>exact⟨0,_,[],[],Zj,rfl,ap.o,aV.o,by simpa using az.o,av.o⟩
   case round=>
    obtain⟨i,sv,vs,A,a3,rfl,q,aH,f,m⟩:=hrel;by_cases al:i<d.length
    .obtain⟨u,C⟩:∃u,d[i]? =nM u:=⟨_,Q9 al⟩;obtain⟨s,hs⟩:∃s,kk[i]? =nM s:=⟨_,Q9 (by have:=aO.o;omega)⟩;obtain⟨vu,O,V⟩:=R.o.get i u C;obtain⟨ti,xi,rfl⟩:=V.iface;obtain⟨g1,g2⟩:=Mi hs O;rcases HC.o with h0|⟨vb,vo,rfl,a1,ak⟩
     .rw[h0]at g1;simp at g1
     have e0:vo+i*2=vo+2*i:=Zj;have c0:wr.cell? ⟨vb,vo+i*2,nN⟩=nM (nG s):=by rw[e0];exact m.keeps (ak _ _ g1)
     have c1:wr.cell? ⟨vb,vo+i*2+1,nN⟩=nM (nF ti xi):=by rw[e0];exact m.keeps (ak _ _ g2)
     have am:=Qi C;have O:=Hm.kept (m.keepsF M.o) (fun _ h=>h) _ _ V;have R:=UD (∀o,Chg wr o []->Cl prog 42 #[nF ti xi] o (fun e l=>∃H p,e= nR H/\AP l u H p/\BP wr p/\Chg wr l [])) fun o n=>(HK.o u _ o am (Hm.kept (n.keepsF (fun b a=>Q6 (M.o b a) m.size)) (fun _ h=>h) _ _ O) (fun b a=>Q6 (M.o b a) (Q7 m.size n.size))).mono fun e l ⟨H,p,e1,E,P,G⟩=>⟨H,p,e1,E,P.of_le n.size,n.trans G⟩;obtain⟨z,q0,rfl,_⟩:=f.lst.form;have Y:vs.length=i:=by rw[f.at_.length,Ql];omega
     rw[Y]at f q;have aj:=q.cell 0;have aq:=UD (B∉(Vl.slice z i q0).ownBlock.toList) fun K=>f.new.apart B (List.mem_cons_self ..) (Qe _ K);have S:=hZ f;have ar:=hZ q;have ae:=hZ m;have aX:=hZ aH;have ba:=q.lt;have aA:=hZ C;have U:=hZ Y;have aD:wr.cell? ⟨B,0,nN⟩=nM (nS z i q0):=aj;clear f q aH m C hs V O am Y aj g1 g2 ak e0;go_wp2_with fail
     go_region_law
      (first
       |(go_simp;go_at_call 42;refine(R.o _ (by exact ot)).mono ?_;rintro e l ⟨H,p,rfl,E,P,G⟩;obtain⟨aK,x1,rfl⟩:=E.iface;have aJ:=G.keeps aD;have a6:=World.block_lt_of_cell? l _ aJ;have K2:=hZ E;have K3:=hZ P;have J:=hZ G;clear E P G)
       |(go_loud(refine Df rfl _ _ _ rfl 66 .nilIface 16 underlying72 Jh rfl (nS z i q0) vs ZN yM l.heap.size (nF aK x1) ZN yP rfl yO yO ?_;rw[U.o];intro g cap w7 ah af ag;have ay:=hZ ah;have Q:=UD (Chg l w7 (Vl.slice z i q0).ownBlock.toList) ((((Chg.refl l []).alloc _).none _).trans af);have aw:=UD ((Vl.slice z i q0).ownBlock=nM g\/l.heap.size<=g) (ag.imp id (fun h=>by rw[World.size_alloc]at h;omega));have L:=hZ ((ar.o.kept J.o).kept Q.o aq.o);have a5:=L.o.cell 0;have a2:∀j,w7.frozen? ⟨B,j,nN⟩=false:=(fun j=>L.o.frozen j);have a7:=L.o.lt;clear ah af ag)))
     all_goals
      go_wp2_with fail;go_roundw
      case rel=>
       have W:=S.o.push K2.o K3.o J.o ay.o Q.o aw.o ae.o.size;rw[<-Cb aA.o]at W;have aE:B∉(Vl.slice (nM ⟨g,0,nN⟩) (i+1) cap).ownBlock.toList++(A++p):=W.new.apart B (List.mem_cons_self ..);refine⟨i+1,_,_,_,Zj,by go_num,L.o.set 0 _, ?_,W.kept (cs:=[B]) ((Chg.refl _ _).setCell _ _ Zh) (fun b a=>by simp at a;subst a;exact aE), ?_⟩
       .refine((aX.o.kept J.o).kept Q.o (fun x n K=>S.o.new.apart x (Qg _ (by simpa using n)) (Qe _ K))).kept (bs:=[B]) ((Chg.refl _ _).setCell _ _ Zh) (fun x n K=> ?_);simp at K;subst K;exact(List.nodup_cons.1 Z.o.nodup).1 (by simpa using n)
       exact yG
      case measure=>simp[intOf];omega
    .have aF:i=d.length:=by omega
     rw[aF,Qn (Q8 _)]at f;go_wp2;go_ret;exact⟨_,B::(sv.ownBlock.toList++(y.ownBlock.toList++A)),rfl,by simp only[AP];exact⟨B,sv,y,vs,A,rfl,q,f.lst,aH,aO.o,f.at_,rfl⟩,f.new.perm ((Ew _ _ _).cons B),m⟩
theorem FK(v:Vl)(w:Wl):(callMethod (nF 131 (nA #[v])) GK #[]).run prog w= .ok (.enter 265 #[nA #[v]]) w:=Yb
theorem QA(b:Nat)(w:Wl):(callMethod (nF 71 (nP (nM ⟨b,0,nN⟩))) GK #[]).run prog w= .ok (.enter 249 #[nP (nM ⟨b,0,nN⟩)]) w:=Yb
theorem No(b:Nat)(w:Wl):(callMethod (nF 123 (nP (nM ⟨b,0,nN⟩))) GK #[]).run prog w= .ok (.enter 260 #[nP (nM ⟨b,0,nN⟩)]) w:=Yb
def NQ(v:Vl)(t:Tr)(w:Wl):Prop:=∃f args,(callMethod v GK #[]).run prog w= .ok (.enter f args) w/\Cl prog f args w (SF t w)
theorem EG(t:Tr)(a:Vl)(c:∃b x,a= nF b x)(w:Wl)(h:∀w',AP w' t (nF 131 (nA #[a])) []):Cl prog 265 #[nA #[a]] w (SF t w):=by
 obtain⟨b,x,rfl⟩:=c;go_enter func265,ntmps265;go_wp2;go_ret;exact⟨_,[],rfl,h _,BP.nil _,by exact cg cR⟩
def Yh(l:List Tr)(w:Wl)(e:Ending)(w':Wl):Prop:=∃sv vs a,e= nR sv/\GD w w' [] l sv vs a/\Chg w w' []
theorem Y8(l:List Tr)(vs:List Vl)(fs:List Nat)(b:Nat)(a:Option Addr)(c:Nat)(w:Wl)(B:w.cell? ⟨b,0,nN⟩=nM (nS a vs.length c))(N:AK w (nS a vs.length c) 66 vs)(A:PsAt w l vs fs)(hl:l.length<=65536)(J:∀u v y w',u∈l->AP w' u v y->NQ v u w'):
  Cl prog 252 #[nP (nM ⟨b,0,nN⟩)] w (Yh l w):=by
 have T:=A.length;have lb:=World.block_lt_of_cell? w _ B;have I:=hZ N;have HP:=hZ A;have Y:=hZ J;have s:=hZ T;have ah:vs.length<=65536:=Zj;clear N A J T;go_enter func252,ntmps252;go_wp2
 go_loopw [3,11] (fun v3 F wr=>∃(k:Nat) (sv:Vl) (us:List Vl) (z:List Nat),k<=vs.length/\F= nI nX k/\sv=v3/\GD w wr [] (l.take k) sv us z/\Chg w wr [])
  (fun _ F _=>vs.length-(intOf F).toNat)
 case atStart=>exact⟨0,_,[],[],Zj,rfl,rfl,by simpa using GD.nil (BP.nil w) (fun b B=>by cases B),by exact cg cR⟩
 case round=>
  obtain⟨k,sv,us,z,hk,rfl,rfl,d,i⟩:=hrel;by_cases ae:k<vs.length
  .obtain⟨u,o⟩:∃u,l[k]? =nM u:=⟨_,Q9 (by have:=s.o;omega)⟩;obtain⟨v,y,S,C,_⟩:=HP.o.get o
   obtain⟨g,rfl⟩:∃g,a=nM ⟨g,0,nN⟩:=by
    obtain⟨a',c',e,h⟩:=I.o.form;injection e with e1
    subst e1;exact h (by intro e;subst e;simp at ae)
   obtain⟨ti,x,rfl⟩:=C.iface;have ag:wr.cell? ⟨g,k,nN⟩=nM (nF ti x):=i.keeps (I.o.cell rfl k _ S);obtain⟨f,args,Q,P⟩:=Y.o u _ y wr (Qi o) (C.chg i Zh);obtain⟨m,n,rfl,_⟩:=d.lst.form;have D:us.length=k:=by rw[d.at_.length,Ql];have:=s.o;omega
   rw[D]at d|-;have q:=hZ d;have H:=hZ i;have ab:=hZ o;have r:=hZ D;have aa:=hZ Q;have W:=hZ P;clear Q P d i o S C D
   go_wp2_with(first
    |(refine Am rfl _ _ _ rfl _ rfl f args aa.o _ W.o ?_;rintro e p ⟨v1,bv,rfl,E,U,V⟩;refine⟨_,rfl, ?_⟩;obtain⟨af,x1,rfl⟩:=E.iface;have K2:=hZ E;have K3:=hZ U;have t:=hZ V;clear E U V)
    |(refine AM rfl _ _ _ rfl 66 .nilIface 16 underlying72 Jh rfl (nS m k n) us ZN (by exact(q.o.lst.kept t.o).kept (bs:=[]) yF Zh) p.heap.size (nF af x1) ZN yP rfl (by rw[r.o];omega) (by rw[r.o];omega) ?_;rw[r.o];intro K cap w7 O L M;have Z:=hZ O;have G:=UD (Chg p w7 (Vl.slice m k n).ownBlock.toList) ((((Chg.refl p []).alloc _).none _).trans L);have X:=UD ((Vl.slice m k n).ownBlock=nM K\/p.heap.size<=K) (M.imp id (fun h=>by rw[World.size_alloc]at h;omega));clear O L M))
   go_roundw
   case rel=>
    have R:=q.o.push K2.o K3.o t.o Z.o G.o X.o H.o.size;rw[<-Cb ab.o]at R;refine⟨k+1,_,_,_,Zj,by go_num,rfl,R,(H.o.trans t.o).step G.o fun j hj hl=> ?_⟩;have:=q.o.new.ge j (by simpa using Or.inl hj);omega
   case measure=>simp[intOf];omega
  .have ad:l.take k=l:=Qn (by have:=s.o;omega);rw[ad]at d;obtain⟨m,n,rfl,_⟩:=d.lst.form;go_wp2;go_ret;exact⟨_,us,z,rfl,d,i⟩
theorem NI(l:List Tr)(vs:List Vl)(m:List Nat)(b:Nat)(a:Option Addr)(c:Nat)(w:Wl)(s:w.cell? ⟨b,0,nN⟩=nM (nS a vs.length c))(q:AK w (nS a vs.length c) 66 vs)(r:PsAt w l vs m)(A:l.length<=65536)(k:∀u v z w',u∈l->AP w' u v z->NQ v u w'):
  Cl prog 249 #[nP (nM ⟨b,0,nN⟩)] w (SF (.list l) w):=by
 have y:=hZ (Y8 l vs m b a c w s q r A k);clear s q r k;go_enter func249,ntmps249
 go_wp2_with(first
  |(go_at_call 252;refine y.o.mono ?_;rintro e f ⟨sv,us,n,rfl,d,o⟩;obtain⟨g,h,rfl,_⟩:=d.lst.form;have t:=hZ d;have j:=hZ o;clear d o))
 go_ret;have d:=t.o;have p:=d.kept (cs:=[]) ((Chg.refl f []).alloc (nC #[nS g us.length h] 74)) Zh;refine⟨_,f.heap.size::((Vl.slice g us.length h).ownBlock.toList++n),rfl, ?_,⟨List.nodup_cons.2 ⟨fun B=> ?_,by simpa using d.new.nodup⟩,fun x i=> ?_⟩,by exact cg j.o⟩
 .simp only[AP];exact⟨f.heap.size,_,us,n,rfl,Ac.new f [nS g us.length h] _,p.lst,p.at_,rfl⟩
 .have:=d.ltAll _ (by simpa using B);omega
 .rcases Qh.1 i with rfl|i
  .exact j.o.size
  .exact d.new.ge x (by simpa using i)
theorem cA(h:∀g,sk.ownBlock=nM g->w.heap.size<=g):BP w sk.ownBlock.toList:=by
 refine⟨?_,fun b a=>h b (by simpa using a)⟩;cases sk.ownBlock<;>simp
theorem LB(ks:List BY)(l:List Tr)(vs:List Vl)(V:List Nat)(b:Nat)(a:Option Addr)(c:Nat)(B:Option Addr)(C:Nat)(w:Wl)(M:Ac w b [nS a vs.length c,nS B ks.length C] 125)(X:AK w (nS a vs.length c) 66 vs)(W:AK w (nS B ks.length C) 9 (Ad ks))(Y:PsAt w l vs V)(hl:l.length<=65536)(aa:ks.length=l.length)(U:∀u v bu w',u∈l->AP w' u v bu->NQ v u w'):
  Cl prog 260 #[nP (nM ⟨b,0,nN⟩)] w (SF (.obj ks l) w):=by
 have Z:w.cell? ⟨b,0,nN⟩=nM (nS a vs.length c):=M.cell 0;have A:w.cell? ⟨b,1,nN⟩=nM (nS B ks.length C):=M.cell 1
 have Q:=UD (∀s r,Chg w r []->Chg r s []->Cl prog 252 #[nP (nM ⟨b,0,nN⟩)] s fun e k=>∃m n us q,e= nR (nS m us.length n)/\AK k (nS m us.length n) 66 us/\PsAt k l us q/\BP r ((Vl.slice m us.length n).ownBlock.toList++q)/\(∀x,x∈(Vl.slice m us.length n).ownBlock.toList++q->x<k.heap.size)/\Chg r k []) fun s r E j=>
  (Y8 l vs V b a c s ((E.trans j).keeps Z) (X.kept (E.trans j)) (Y.chg (E.trans j) Zh) hl U).mono fun e k ⟨sv,us,q,h0,d,f⟩=>by
   obtain⟨m,n,rfl,_⟩:=d.lst.form;exact⟨m,n,us,q,h0,d.lst,d.at_,(by simpa using d.new:BP s _).of_le j.size,fun x j=>d.ltAll x (by simpa using j),j.trans f⟩
 have R:=UD (∀s r,Chg w r []->Chg r s []->Cl prog 22 #[nS B ks.length C] s fun e k=>∃o p,e= nR (nS o (Ad ks).length p)/\AK k (nS o (Ad ks).length p) 9 (Ad ks)/\BP r (Vl.slice o (Ad ks).length p).ownBlock.toList/\Chg r k []) fun s r E j=>by
  have hk:=W.kept (E.trans j);refine(DL (fun g=>(Vl.slice B ks.length C).ownBlock=nM g) _ _ s hk.toRow (Gu ks) (by rw[Ao];omega)).mono ?_;rintro e k ⟨sk,rfl,d,f,i⟩;obtain⟨o,p,rfl,_⟩:=d.form;exact⟨o,p,rfl,d,(cA f).of_le j.size,j.trans i⟩
 have ab:=hZ aa;clear M X W Y U Z aa;go_enter func260,ntmps260;go_wp2_with fail
 go_region_held3(fun w'=>w'.cell? ⟨b,1,nN⟩=nM (nS B ks.length C)) (first|exact A|exact O|exact N|exact(fun h:Chg y _ []=>h.keeps O) yF|exact(fun h:Chg I _ []=>h.keeps N) yF|exact(fun h:Chg w _ []=>h.keeps A) yF)
  (first
   |(go_at_call 252;refine(Q.o _ I G.o yF).mono ?_;rintro e k ⟨m,n,us,q,rfl,d,f,i,H,z⟩;have D:=UD (Chg w k []) (G.o.trans z);have J:=UD (AK k (nS o (Ad ks).length p) 9 (Ad ks)) (S.o.kept z);have T:=UD (BP w ((Vl.slice o (Ad ks).length p).ownBlock.toList++((Vl.slice m us.length n).ownBlock.toList++q))) (af.o.append S.o.ltB i G.o.size);have K:=hZ d;have L:=hZ f;obtain⟨y,rfl⟩:=Ue k;have O:=D.o.keeps A;clear d f i H z)
   |(go_at_call 252;refine(Q.o _ w cR yF).mono ?_;rintro e k ⟨m,n,us,q,rfl,d,f,i,H,z⟩;have F:=hZ z;have ae:=hZ i;have ad:=hZ d;have ag:=hZ f;have ah:=hZ H;obtain⟨I,rfl⟩:=Ue k;have N:=F.o.keeps A;clear d f i H z)
   |(go_at_call 22;refine(R.o _ I F.o yF).mono ?_;rintro e w2 ⟨o,p,rfl,d,f,i⟩;have D:=UD (Chg w w2 []) (F.o.trans i);have J:=hZ d;have T:=UD (BP w ((Vl.slice o (Ad ks).length p).ownBlock.toList++((Vl.slice m us.length n).ownBlock.toList++q))) ((ae.o.append ah.o f F.o.size).perm List.perm_append_comm);have K:=hZ (ad.o.kept i);have L:=hZ (ag.o.chg i Zh);obtain⟨y,rfl⟩:=Ue w2;have O:=D.o.keeps A;clear d f i)
   |(go_at_call 22;refine(R.o _ w cR yF).mono ?_;rintro e w2 ⟨o,p,rfl,d,f,i⟩;have G:=hZ i;have af:=hZ f;have S:=hZ d;obtain⟨I,rfl⟩:=Ue w2;have N:=G.o.keeps A;clear d f i))
 all_goals
  go_wp2_with fail;go_ret;have P:Chg y (y.alloc (nC #[nS m us.length n,nS o (Ad ks).length p] 125)) []:=(Chg.refl y []).alloc _;refine⟨_,y.heap.size::((Vl.slice m us.length n).ownBlock.toList++((Vl.slice o (Ad ks).length p).ownBlock.toList++q)),rfl, ?_, ?_,by exact cg D.o⟩
  .simp only[AP];exact⟨y.heap.size,_,_,us,q,rfl,Ac.new y [nS m us.length n,nS o (Ad ks).length p] _,K.o.kept P,J.o.kept P,ab.o,L.o.chg P Zh,rfl⟩
  .have hn:=T.o.perm (Ew (Vl.slice m us.length n).ownBlock.toList (Vl.slice o (Ad ks).length p).ownBlock.toList q);refine⟨List.nodup_cons.2 ⟨fun t=> ?_,hn.nodup⟩,fun x j=> ?_⟩
   .simp only[Qf]at t;rcases t with t|t|t
    .have:=K.o.ltB _ t;omega
    .have:=J.o.ltB _ t;omega
    .have:=PsAt.lt _ _ _ L.o _ t;omega
   .rcases Qh.1 j with rfl|j
    .exact D.o.size
    .exact hn.ge x j
theorem Xq:∀(k:Nat) (t:Tr) (v:Vl) (bs:List Nat) (w:Wl),(Ag t).nodes<=k->(Ag t).nodes<=65536->AP w t v bs->NQ v t w:=by
 intro k;induction k with
 |zero=>intro t _ _ _ h;have:=Cv t;omega
 |succ k y=>
  intro t v bs w C D d
  have g:∀u v j w',u∈Ab t->AP w' u v j->NQ v u w':=by
   intro u v j w' s r;obtain⟨i,hi⟩:=List.mem_iff_getElem?.1 s;have:=CO hi;exact y u v j w' Zj Zj r
  have p:=Bj t;cases t with
  |null=>
   simp only[AP]at d;obtain⟨rfl,rfl⟩:=d;exact⟨_,_,FK _ w,EG .null _ ⟨_,_,rfl⟩ w (fun _=>by simp[AP,AG])⟩
  |flag x=>
   simp only[AP]at d;obtain⟨rfl,rfl⟩:=d;exact⟨_,_,FK _ w,EG (.flag x) _ ⟨_,_,rfl⟩ w (fun _=>by simp[AP,AG])⟩
  |num x=>
   simp only[AP]at d;obtain⟨rfl,rfl⟩:=d;exact⟨_,_,FK _ w,EG (.num x) _ ⟨_,_,rfl⟩ w (fun _=>by simp[AP,AG])⟩
  |text x=>
   simp only[AP]at d;obtain⟨rfl,rfl⟩:=d;exact⟨_,_,FK _ w,EG (.text x) _ ⟨_,_,rfl⟩ w (fun _=>by simp[AP,AG])⟩
  |list l=>
   simp only[AP]at d;obtain⟨b,B,vs,m,rfl,f,e,n,rfl⟩:=d;obtain⟨a,c,rfl,_⟩:=e.form;simp only[Ab]at p g;exact⟨_,_,QA b w,NI l vs m b a c w (f.cell 0) e n Zj g⟩
  |obj ks l=>
   simp only[AP]at d;obtain⟨b,B,sk,vs,m,rfl,f,e,o,q,n,rfl⟩:=d;obtain⟨a,c,rfl,_⟩:=e.form;obtain⟨z,A,rfl,_⟩:=o.form;rw[Ao]at f o;simp only[Ab]at p g;exact⟨_,_,No b w,LB ks l vs m b a c z A w f e o n Zj q g⟩
def eN(ks:List BY)(s:BY):Int:=if C4 ks s=true then(A5 ks s:Int)else-1
theorem yJ(h:p:=by go_wp2_with fail;go_ret;exact⟨rfl,(Chg.refl w []).alloc _⟩):p:=h
theorem eP(k s:BY)(d:Ti)(f:Vl)(X:Nat)(w:Wl)(a:Ac w X [nG s] 9):
  Cl prog 87 #[nA #[nG k,nF d f],nP (nM ⟨X,0,nN⟩)] w fun e w'=>e= nR (.bool (decide (k=s)))/\Chg w w' []:=by
 have b:=a.cell 0;have i:=a.lt;simp only[Qa]at b;by_cases h:k=s
 .subst h;rw[decide_eq_true rfl];go_enter func87,ntmps87;exact yJ
 .have c:¬k.toList=s.toList:=fun e=>h (by rw[Lib.toList_data,Lib.toList_data]at e;exact ByteArray.ext (Array.toList_inj.1 e));have g:(k.toList==s.toList)=false:=by simpa using c
  rw[decide_eq_false h];go_enter func87,ntmps87;exact yJ
theorem eQ(k:BY)(b:Ti)(c:Vl)(w:Wl):
  Cl prog 60 #[nA #[nG k,nF b c]] w fun e w'=>e= nR (.bool (decide (k=SZ)))/\Chg w w' []:=by
 by_cases h:k=SZ
 .subst h;have f:(SZ.toList==[118,97,108,117,101])=true:=by rw[beq_iff_eq,Lib.toList_data];rfl
  rw[decide_eq_true rfl];go_enter func60,ntmps60;exact yJ
 .have a:¬k.toList=[118,97,108,117,101]:=fun e=>h (by rw[Lib.toList_data]at e;exact ByteArray.ext (Array.toList_inj.1 e));have d:(k.toList==[118,97,108,117,101])=false:=by simpa using a
  rw[decide_eq_false h];go_enter func60,ntmps60;exact yJ
theorem eM{vs:List Vl}{k:BY}{v:Vl}(a:ks[i]? =nM k)(b:vs[i]? =nM v):(Kp ks vs)[i*2]? =nM (nG k)/\(Kp ks vs)[i*2+1]? =nM v:=by
 have h:=Mi a b;rw[Nat.mul_comm 2 i]at h;exact h
theorem eO(h:ks[i]? =nM s)(e:∀j k,j<i->ks[j]? =nM k->k≠s):eN ks s=i:=by
 have d:s∈ks:=Qi h
 have f:A5 ks s=i:=by
  have c:i<ks.length:=(Qc.1 h).1;refine(List.findIdx_eq c).2 ⟨?_,fun j a=> ?_⟩
  .have:=(Qc.1 h).2;simpa using this
  .have b:j<ks.length:=by omega
   have:=e j ks[j] a (Q9 b);simpa using this
 unfold eN;rw[Qr (Cp.2 d),f]
theorem eL(b:∀j k,j<ks.length->ks[j]? =nM k->k≠s):eN ks s= -1:=by
 unfold eN;rw[Qs];intro h;obtain⟨j,a⟩:=List.mem_iff_getElem?.1 (Cp.1 h);exact b j s (Qc.1 a).1 a rfl
theorem eV(p:Nat)(n:Array Vl)(s:BY)(ks:List BY)(vs:List Vl)(F:Nat->Prop)(O:Option Addr)(c:Nat)(w:Wl)(M:ks.length=vs.length)(aa:ks.length<=4294967296)(K:LP w F O (Kp ks vs))(hi:∀v∈vs,∃a d,v= nF a d)(Y:∀x w,(callFunc p (#[x]++n)).run prog w= .ok (.enter p (#[x]++n)) w)(L:∀G k a d,Chg w G []->Cl prog p (#[nA #[nG k,nF a d]]++n) G fun e w'=>e= nR (.bool (decide (k=s)))/\Chg G w' []):
  Cl prog 59 #[nS O ks.length c,.func (.func p) #[] n] w fun e w'=>e= nR (nI nX (eN ks s))/\Chg w w' []:=by
 have R:=hZ K;have H:=hZ L;have P:=hZ hi;have Q:=hZ M;clear K L hi M;go_enter func59,ntmps59;go_wp2_with fail;go_loopw [8] (fun E wr=>∃i:Nat,i<=ks.length/\E= nI nX i/\Chg w wr []/\∀j k,j<i->ks[j]? =nM k->k≠s) (fun E _=>ks.length-(intOf E).toNat)
 case atStart=>exact⟨0,Zj,rfl,Chg.refl w [],fun j k h=>absurd h (Nat.not_lt_zero j)⟩
 case round=>
  obtain⟨i,Z,rfl,t,N⟩:=hrel;have g:=hZ t;have z:=hZ N;clear N;by_cases V:i<ks.length
  .obtain⟨k,C⟩:∃k,ks[i]? =nM k:=⟨_,Q9 V⟩;obtain⟨v,D⟩:∃v,vs[i]? =nM v:=⟨_,Q9 (by have:=Q.o;omega)⟩;obtain⟨a,d,rfl⟩:=P.o v (Qi D);obtain⟨r,J⟩:=eM C D;rcases R.o with T|⟨b,o,rfl,_,A⟩
   .rw[T]at r;simp at r
   have X:wr.cell? ⟨b,o+i*2,nN⟩=nM (nG k):=t.keeps (A _ _ r);have c1:wr.cell? ⟨b,o+i*2+1,nN⟩=nM (nF a d):=t.keeps (A _ _ J);have I:=hZ C;clear A r J D t C;by_cases f:k=s
   .have y:=hZ f;have B:decide (k=s)=true:=decide_eq_true f;clear f;go_wp2_with((refine(H.o wr k a d g.o).mono ?_;rw[B];rintro e W ⟨rfl,l⟩;have u:=hZ l;clear l));go_ret;exact⟨by rw[eO (y.o▸I.o) z.o];rfl,g.o.trans u.o⟩
   .have y:=hZ f;have B:decide (k=s)=false:=decide_eq_false f;clear f;go_wp2_with((refine(H.o wr k a d g.o).mono ?_;rw[B];rintro e W ⟨rfl,l⟩;have u:=hZ l;clear l));go_roundw
    case rel=>
     refine⟨i+1,Zj,by go_num,g.o.trans u.o,fun j q hj m=> ?_⟩;by_cases U:j=i
     .subst U;have S:=I.o;rw[S]at m;injection m with m
      rw[<-m];exact y.o
     .exact z.o j q Zj m
    case measure=>simp[intOf];omega
  .obtain rfl:i=ks.length:=by omega
   go_wp2_with fail;go_ret;exact⟨by rw[eL z.o];rfl,g.o⟩
end
end Go.Proofs.YtamgbmcchhmojaaGreatDoor

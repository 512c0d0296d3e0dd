/- Part 18 of the proof of both cards. -/
import Derived.Test.YtpdnhfkacgdocaaGreatDoorM17
set_option maxRecDepth 100000
set_option maxHeartbeats 32000000
set_option linter.all false
namespace Go.Proofs.YtpdnhfkacgdocaaGreatDoor
open Go renaming Calls->Cl,TypeId->Ti,Value->Vl,World->Wl
open Go.Value renaming agg->nA,iface->nF,int->nI,pointer->nP,slice->nS,string->nG,tuple->nT
open Go.IntKind renaming i64->nX
open Go.Ending renaming returned->nR
open Go.Obj renaming cells->nC
open Option renaming none->nN,some->nM
section
open Go Go.Shelf Go.RowKit Go.Lib Tree Ptr
variable{w:Wl}
theorem NS{W:Nat}{g:Vl}{b:List Nat}{t x:Tr}{ts:List BY}{w':Wl}{e:Ending}(a:List CW)(h:Cq W g b t x ts w e w'):
  (∃n,Ga t ts x a= .no n/\e=By n/\Chg w w' b)\/(∃f,Ga t ts x a= .yes f (Dd t ts::a)/\ET W g b f (Dd t ts).toI w e w'):=by
 unfold Cq at h;unfold Ga;by_cases c:EN t ts≠0
 .rw[Qr c]at h|-;exact .inl ⟨_,rfl,h.1,h.2⟩
 .rw[Qs c]at h|-;unfold Kj;by_cases d:(Ag (At t ts x)).within=true
  .rw[Qr d]at h|-;exact .inr ⟨_,rfl,h⟩
  .rw[Qs d]at h|-;exact .inl ⟨_,rfl,h.1,h.2⟩
theorem I3{P:Program}{o:Oper}{a:Act}{Q:Exit->Act->Wl->Prop}{K:Act->Wl->Prop}(r:Operand)(b:String)(m:Array Ti)(j:o.op= .call {callee:= .invoke r b,args:=#[],argTypes:=m})(v:Vl)(l:a.eval r=v)(f:FuncId)(args:Array Vl)(i:(callMethod v b #[]).run P w= .ok (.enter f args) w)(R:Ending->Wl->Prop)(d:Cl P f args w R)(c:∀e w2,R e w2->∃u,e= nR u/\K (a.put o.dst u) w2):Oper.wp P o a w K Q:=by
 unfold Oper.wp
 have g:(execOp a.eval o).run P w= .ok (.enter f args) w:=by
  simp[execOp,j,resolve,invoke,l,i]
 rw[g];refine d.mono fun e w2 h=> ?_;obtain⟨u,rfl,k⟩:=c e w2 h;exact k
structure IL(w4:Wl)(V:Nat->Vl->Prop)(P7 P8 P9:Vl->Wl->Prop)(d:Nat->Bool)(f:Nat->Vl)(w:Wl):Prop where
 early:d 8=false->Chg w4 w []
 vals:∀j,j<7->d j=true->V j (f j)
 o7:d 7=true->d 6=true
 o8:d 8=true->∀j,j<8->d j=true
 o9:d 9=true->d 8=true
 o10:d 10=true->d 9=true
 p7:d 7=true->d 8=false->P7 (f 7) w
 p8:d 8=true->d 9=false->P8 (f 8) w
 p9:d 9=true->P9 (f 9) w
 p10:d 10=true->f 10=f 9
section
variable{v:Vl}
variable {w4:Wl} {V:Nat->Vl->Prop} {P7 P8 P9:Vl->Wl->Prop} {d:Nat->Bool} {f:Nat->Vl} {w w':Wl}
theorem IL.read{j:Nat}(h:IL w4 V P7 P8 P9 d f w)(r:j<7)(g:d j=false)(p:V j v)(o:Chg w w' [])(q:w'=w\/j=6):IL w4 V P7 P8 P9 (BA d j) (Eb f j v) w':=by
 have n:∀k,k≠j->BA d j k=d k:=fun k a=>An d a;have m:∀k,k≠j->Eb f j v k=f k:=fun k a=>AA f v a
 have b:d 8=false:=by cases e:d 8 with
  |false=>rfl
  |true=>rw[h.o8 e j Zj]at g;cases g
 have c:d 9=false:=by cases e:d 9 with
  |false=>rfl
  |true=>rw[h.o9 e]at b;cases b
 have i:d 10=false:=by cases e:d 10 with
  |false=>rfl
  |true=>rw[h.o10 e]at c;cases c
 have up:∀k,d k=true->BA d j k=true:=fun k a=>by unfold BA;split;rfl;exact a
 refine⟨?_, ?_, ?_, ?_, ?_, ?_, ?_, ?_, ?_, ?_⟩<;>try simp only[n 7 Zj,n 8 Zj,n 9 Zj,n 10 Zj,m 7 Zj,m 8 Zj,m 9 Zj,m 10 Zj]
 .exact fun _=>(h.early b).trans o
 .intro k a l;by_cases e:k=j
  .subst e;rw[Bf];exact p
  .rw[m k e];rw[n k e]at l;exact h.vals k a l
 .exact fun e=>up 6 (h.o7 e)
 .rw[b];intro e;cases e
 .rw[c];intro e;cases e
 .rw[i];intro e;cases e
 .intro e _;rcases q with rfl|rfl
  .exact h.p7 e b
  .rw[h.o7 e]at g;cases g
 .rw[b];intro e;cases e
 .rw[c];intro e;cases e
 .rw[i];intro e;cases e
theorem IL.made(h:IL w4 V P7 P8 P9 d f w)(i:d 7=false)(l:d 6=true)(p:P7 v w')(o:Chg w w' []):IL w4 V P7 P8 P9 (BA d 7) (Eb f 7 v) w':=by
 have n:∀k,k≠7->BA d 7 k=d k:=fun k b=>An d b;have m:∀k,k≠7->Eb f 7 v k=f k:=fun k b=>AA f v b
 have a:d 8=false:=by cases e:d 8 with
  |false=>rfl
  |true=>rw[h.o8 e 7 Zj]at i;cases i
 have c:d 9=false:=by cases e:d 9 with
  |false=>rfl
  |true=>rw[h.o9 e]at a;cases a
 have g:d 10=false:=by cases e:d 10 with
  |false=>rfl
  |true=>rw[h.o10 e]at c;cases c
 refine⟨?_, ?_, ?_, ?_, ?_, ?_, ?_, ?_, ?_, ?_⟩<;>try simp only[n 6 Zj,n 8 Zj,n 9 Zj,n 10 Zj,Bf,m 8 Zj,m 9 Zj,m 10 Zj]
 .exact fun _=>(h.early a).trans o
 .intro k b j;rw[m k Zj];rw[n k Zj]at j;exact h.vals k b j
 .exact fun _=>l
 .rw[a];intro e;cases e
 .rw[c];intro e;cases e
 .rw[g];intro e;cases e
 .exact fun _ _=>p
 .rw[a];intro e;cases e
 .rw[c];intro e;cases e
 .rw[g];intro e;cases e
theorem dn{p:Prop}(h:p:=by intro k a i;rw[m k Zj];rw[n k Zj]at i;exact h.vals k a i):p:=h
theorem IL.added(h:IL w4 V P7 P8 P9 d f w)(g:d 8=false)(l:∀j,j<8->d j=true)(p:P8 v w'):IL w4 V P7 P8 P9 (BA d 8) (Eb f 8 v) w':=by
 have n:∀k,k≠8->BA d 8 k=d k:=fun k a=>An d a;have m:∀k,k≠8->Eb f 8 v k=f k:=fun k a=>AA f v a
 have b:d 9=false:=by cases e:d 9 with
  |false=>rfl
  |true=>rw[h.o9 e]at g;cases g
 have c:d 10=false:=by cases e:d 10 with
  |false=>rfl
  |true=>rw[h.o10 e]at b;cases b
 refine⟨?_, ?_, ?_, ?_, ?_, ?_, ?_, ?_, ?_, ?_⟩<;>try simp only[n 6 Zj,n 7 Zj,n 9 Zj,n 10 Zj,Bf,BG,m 7 Zj,m 9 Zj,m 10 Zj]
 .intro e;cases e
 .exact dn
 .exact h.o7
 .intro _ j o;rw[n j Zj];exact l j o
 .rw[b];intro e;cases e
 .rw[c];intro e;cases e
 .intro _ e;cases e
 .exact fun _ _=>p
 .rw[b];intro e;cases e
 .rw[c];intro e;cases e
theorem IL.built(h:IL w4 V P7 P8 P9 d f w)(g:d 9=false)(b:d 8=true)(o:P9 v w'):IL w4 V P7 P8 P9 (BA d 9) (Eb f 9 v) w':=by
 have n:∀k,k≠9->BA d 9 k=d k:=fun k a=>An d a;have m:∀k,k≠9->Eb f 9 v k=f k:=fun k a=>AA f v a
 have c:d 10=false:=by cases e:d 10 with
  |false=>rfl
  |true=>rw[h.o10 e]at g;cases g
 refine⟨?_, ?_, ?_, ?_, ?_, ?_, ?_, ?_, ?_, ?_⟩<;>try simp only[n 6 Zj,n 7 Zj,n 8 Zj,n 10 Zj,Bf,BG,m 7 Zj,m 8 Zj,m 10 Zj]
 .rw[b];intro e;cases e
 .exact dn
 .exact h.o7
 .intro e j l;rw[n j Zj];exact h.o8 e j l
 .exact fun _=>b
 .rw[c];intro e;cases e
 .rw[b];intro _ e;cases e
 .intro _ e;cases e
 .exact fun _=>o
 .rw[c];intro e;cases e
theorem IL.end_(h:IL w4 V P7 P8 P9 d f w)(b:d 9=true):IL w4 V P7 P8 P9 (BA d 10) (Eb f 10 (f 9)) w:=by
 have n:∀k,k≠10->BA d 10 k=d k:=fun k a=>An d a;have m:∀k,k≠10->Eb f 10 (f 9) k=f k:=fun k a=>AA f _ a;have i:=h.o9 b;refine⟨?_, ?_, ?_, ?_, ?_, ?_, ?_, ?_, ?_, ?_⟩<;>try simp only[n 6 Zj,n 7 Zj,n 8 Zj,n 9 Zj,Bf,BG,m 7 Zj,m 8 Zj,m 9 Zj]
 .exact h.early
 .intro k a c;rw[m k Zj];rw[n k Zj]at c;exact h.vals k a c
 .exact h.o7
 .intro e j g;rw[n j Zj];exact h.o8 e j g
 .exact h.o9
 .exact fun _=>b
 .exact h.p7
 .exact h.p8
 .exact h.p9
 .exact fun _=>trivial
end
end
section
open _root_.Go.Proofs.Tryz
open Go Go.Shelf Go.RowKit Go.Lib Tree Ptr
variable{g:Nat}{G2 p:Nat->Prop}{c w0 w2:Wl}
theorem Mg(s p:BY)(w:Wl):
  Cl prog 138 #[nG s,nG p] w fun e w'=>e= nR (.bool (Lib.hasPrefix s.data.toList p.data.toList))/\w'=w:=by
 rw[<-Lib.hasPrefix_of_take,<-Lib.size_eq,<-Lib.size_eq];go_enter func138,ntmps138;go_wp2
 .rename_i h;go_ret;refine⟨?_,rfl⟩;show Ending.returned (Vl.bool ((s.extract 0 p.size).toList==p.toList))=_
  rw[Lib.extract_toList,Lib.toList_data];simp[h]
 .rename_i h;go_ret;refine⟨?_,rfl⟩;show Ending.returned (Vl.bool false)=_
  simp[h]
theorem EH(s p:BY)(w:Wl):
  Cl prog 107 #[nG s,nG p] w fun e w'=>e= nR (.bool (Lib.hasPrefix s.data.toList p.data.toList))/\w'=w:=by
 have a:=hZ (Mg s p);go_enter func107,ntmps107
 go_wp2_with(first
  |(go_at_call 138;refine(a.o _).mono ?_;rintro e b ⟨rfl,rfl⟩))
 go_ret;exact⟨rfl,rfl⟩
theorem GR(a b:BY):Lib.hasPrefix a.data.toList (b++(⟨#[47]⟩:BY)).data.toList=EV a b:=by
 unfold EV Lib.hasPrefix;simp
def FR(t:Tr)(p f:BY)(path frm:List BY):PV:=if EV p f=true then .no 175 else match Ah t frm with
 |none=> .no 4
 |some u=>if p=f then .yes t []else Ga (A8 t frm) path u [⟨1,A6 frm,Dz,Ai u⟩]
theorem Dr.keptG{f:Wl}{o:Bq}{sv:Vl}{ys:List Vl}{G:Nat->Prop}{cs:List Nat}(h:Dr f w2 o sv ys G)(d:Chg w2 c cs)(g:∀b,b∈cs->¬G b)(i:w0.heap.size<=f.heap.size):Dr w0 c o sv ys G:=by
 have e:BZ G w2 c:=d.keepsF (fun b a=>(h.new b a).2) g;exact⟨h.row.keptF h.inn e,h.inn,h.steps.kept e (fun _ h=>h),fun b a=>by have:=h.new b a;have:=d.size;omega⟩
theorem EW.two{h:Wl}{j k:Bq}{l m:Vl}{u w:List Vl}(d:Dr w0 w2 j l u p)(f:Dr w0 w2 k m w G2)(x:w0.heap.size<=w2.heap.size)(q:Chg w2 h [])(r:Ac h g (BJ j l++BJ k m) 42)(y:w2.heap.size<=g):EW w0 h [j,k] (nS (nM ⟨g,0,Option.none⟩) 2 2) (BJ j l++BJ k m) (fun b=>b=g\/p b\/G2 b):=by
 have A:=q.size;have s:BZ p w2 h:=q.keepsF (fun b a=>(d.new b a).2);have t:BZ G2 w2 h:=q.keepsF (fun b a=>(f.new b a).2);refine⟨⟨_,_,rfl,Q8 _,by simp[BJ],fun i v z=>⟨g,0,rfl,by rw[Nat.zero_add,r.cell i];exact z⟩⟩,(fun b o n c e=>by injection e with e;injection e with e;injection e with e;exact .inl e.symm), ?_, ?_⟩
 .exact⟨l,u,_,rfl,d.row.keptF d.inn s,d.inn.mono (fun b a=> .inr (.inl a)),d.steps.kept s (fun b a=> .inr (.inl a)),
   m,w,[],Zh,f.row.keptF f.inn t,f.inn.mono (fun b a=> .inr (.inr a)),f.steps.kept t (fun b a=> .inr (.inr a)),rfl⟩
 .rintro b (rfl|a|a)
  .exact⟨Q7 x y,r.lt⟩
  .have:=d.new b a;omega
  .have:=f.new b a;omega
theorem Yn{W:Nat}{A:Vl}{bs f d:List Nat}{z:Tr}{m n:CW}{w o:Wl}{v' x y:Vl}{F G:List Vl}(v:Dr w c m.toI x F p)(t:DJ w (W::bs) f)(s:Chg w c (W::bs))(r:∀b,b∈f->¬p b)(e:Dr c w2 n.toI y G G2)(l:Hu w2 W z v' A d)(u:DJ c f (W::d))(k:Chg c w2 f)(B:∀b,b∈W::d->¬G2 b)(C:Ac o g (BJ m.toI x++BJ n.toI y) 42)(E:w2.heap.size<=g)(j:Chg w2 o []):BC W A (W::bs) (.yes z [n,m]) w (nR (nS (nM ⟨g,0,nN⟩) 2 2)) o:=by
 have H:=s.size;have J:=k.size;have D:Chg w w2 (W::bs):=s.step k (fun i hi I=>by rcases t.come i hi with h|h;exact h;omega);refine⟨v',d,_,_,_,rfl,EW.two (w0:=w) (v.keptG k r (Q8 _)) ⟨e.row,e.inn,e.steps,fun b a=>by have:=e.new b a;omega⟩ Zj j C E,l.kept j,t.trans u H,D.trans (j.none _),fun b a=> ?_⟩;rintro(rfl|h|h)
 .rcases Qh.1 a with h|h
  .have:=l.blk.lt;omega
  .have:=AP.lt _ _ _ l.at_ _ h;omega
 .rcases u.come b a with q|q
  .exact r b q h
  .have:=v.new b h;omega
 .exact B b a h
structure Kf(w4:Wl)(V:Nat->Vl->Prop)(P5 P6:Vl->Wl->Prop)(d:Nat->Bool)(f:Nat->Vl)(w:Wl):Prop where
 early:d 5=false->w=w4
 vals:∀j,j<5->d j=true->V j (f j)
 p5:d 5=true->d 6=false->P5 (f 5) w
 p6:d 6=true->P6 (f 6) w
 p7:d 7=true->f 7=f 6
section
variable{v:Vl}
variable {w4:Wl} {V:Nat->Vl->Prop} {P5 P6:Vl->Wl->Prop} {d:Nat->Bool} {f:Nat->Vl} {w w':Wl}
theorem Kf.read{j:Nat}(h:Kf w4 V P5 P6 d f w)(g:j<5)(c:V j v):Kf w4 V P5 P6 (BA d j) (Eb f j v) w:=by
 have n:∀k,k≠j->BA d j k=d k:=fun k a=>An d a;have m:∀k,k≠j->Eb f j v k=f k:=fun k a=>AA f v a;refine⟨?_, ?_, ?_, ?_, ?_⟩<;>try simp only[n 5 Zj,n 6 Zj,n 7 Zj,m 5 Zj,m 6 Zj,m 7 Zj]
 .exact h.early
 .intro k a b;by_cases e:k=j
  .subst e;rw[Bf];exact c
  .rw[m k e];rw[n k e]at b;exact h.vals k a b
 .exact h.p5
 .exact h.p6
 .exact h.p7
theorem lN{p:Prop}(h:p:=by intro k a b;rw[m k Zj];rw[n k Zj]at b;exact h.vals k a b):p:=h
theorem Kf.added(h:Kf w4 V P5 P6 d f w)(c:d 6=false)(g:d 7=false)(i:P5 v w'):Kf w4 V P5 P6 (BA d 5) (Eb f 5 v) w':=by
 have n:∀k,k≠5->BA d 5 k=d k:=fun k a=>An d a;have m:∀k,k≠5->Eb f 5 v k=f k:=fun k a=>AA f v a;refine⟨?_, ?_, ?_, ?_, ?_⟩<;>try simp only[n 6 Zj,n 7 Zj,Bf,BG,m 6 Zj,m 7 Zj]
 .intro e;cases e
 .exact lN
 .exact fun _ _=>i
 .rw[c];intro e;cases e
 .rw[g];intro e;cases e
theorem Kf.built(h:Kf w4 V P5 P6 d f w)(c:d 5=true)(g:d 7=false)(i:P6 v w'):Kf w4 V P5 P6 (BA d 6) (Eb f 6 v) w':=by
 have n:∀k,k≠6->BA d 6 k=d k:=fun k a=>An d a;have m:∀k,k≠6->Eb f 6 v k=f k:=fun k a=>AA f v a;refine⟨?_, ?_, ?_, ?_, ?_⟩<;>try simp only[n 5 Zj,n 7 Zj,Bf,BG,m 5 Zj,m 7 Zj]
 .rw[c];intro e;cases e
 .exact lN
 .intro _ e;cases e
 .exact fun _=>i
 .rw[g];intro e;cases e
theorem Kf.end_(h:Kf w4 V P5 P6 d f w):Kf w4 V P5 P6 (BA d 7) (Eb f 7 (f 6)) w:=by
 have n:∀k,k≠7->BA d 7 k=d k:=fun k a=>An d a;have m:∀k,k≠7->Eb f 7 (f 6) k=f k:=fun k a=>AA f _ a;refine⟨?_, ?_, ?_, ?_, ?_⟩<;>try simp only[n 5 Zj,n 6 Zj,Bf,BG,m 5 Zj,m 6 Zj]
 .exact h.early
 .exact lN
 .exact h.p5
 .exact h.p6
 .exact fun _=>trivial
end
variable{p:Prop}
theorem Rw(W:Nat)(o sv q:Vl)(l:List Nat)(m n:Vl)(t:Tr)(ts c:List BY)(k:Int)(p f:BY)(w:Wl)(r:f.size<=16777216)(hi:EV p f=true):
  Cl prog 75 #[nP (nM ⟨W,0,nN⟩),nA #[nI nX k,nG p,nG f,sv,m,n,q]] w (BC W o l (FR t p f ts c) w):=by
 have g:FR t p f ts c= .no 175:=by unfold FR;rw[Qr hi]
 rw[g,Hz];have b:=GR p f;rw[hi]at b
 have j:=UD (∀a,Cl prog 107 #[nG p,nG (f++⟨#[47]⟩)] a fun e w'=>e= nR (.bool true)/\w'=a) fun a=>by
  have:=EH p (f++⟨#[47]⟩) a;rw[b]at this;exact this
 clear hi g b;go_enter func75,ntmps75
 go_wp2_with(first
  |(go_at_call 107;refine(j.o _).mono ?_;rintro e s ⟨rfl,rfl⟩)
  |(go_at_call 80;refine(Bu _ _).mono ?_;rintro e w2 ⟨d,h⟩;unfold By at d;subst d;have i:=UD (Chg w w2 []) (ct cR h);clear h))
 exact⟨rfl,rfl,i.o.none _⟩
theorem gv(h:p:=by exact cg cR):p:=h
theorem Rx(W:Nat)(t:Tr)(v s B:Vl)(bs:List Nat)(u:Nat->Prop)(i:Option Addr)(j:Nat)(ts a:List BY)(k:Int)(p f:BY)(sv A:Vl)(z:List Nat)(w:Wl)(l:Br w)(m:Hu w W t v s bs)(o:JC w u (nS i a.length j) a)(D:f.size<=16777216)(hi:EV p f=false)(c:Ah t a=nN):
  Cl prog 75 #[nP (nM ⟨W,0,nN⟩),nA #[nI nX k,nG p,nG f,sv,A,nS i a.length j,B]] w (BC W s z (FR t p f ts a) w):=by
 have r:FR t p f ts a= .no 4:=by unfold FR;rw[Qs (by simp[hi]),c]
 rw[r,Hz];have d:=GR p f;rw[hi]at d
 have y:=UD (∀b,Cl prog 107 #[nG p,nG (f++⟨#[47]⟩)] b fun e w'=>e= nR (.bool false)/\w'=b) fun b=>by
  have:=EH p (f++⟨#[47]⟩) b;rw[d]at this;exact this
 have g:=hZ (Im l m o c);obtain⟨C,q⟩:=Ue a.length;rw[<-q]at g|-;clear hi r d l m o c q;go_enter func75,ntmps75
 go_wp2_with(first
  |(go_at_call 107;refine(y.o _).mono ?_;rintro e E ⟨rfl,rfl⟩)
  |(go_at_call_of 80 (Vl.bool true);refine(Bv _ _).mono ?_;rintro e F ⟨rfl,rfl⟩)
  |(go_at_call 108;refine(g.o _ gv).mono ?_;rintro e w2 ⟨n,h⟩;unfold By at n;subst n;have x:=UD (Chg w w2 []) (ct cR h);clear h))
 exact⟨rfl,rfl,x.o.none _⟩
theorem NH(W:Nat)(t u:Tr)(v A m:Vl)(bs:List Nat)(B:Nat->Prop)(b:Option Addr)(c:Nat)(ts a:List BY)(k:Int)(f:BY)(sv l:Vl)(w:Wl)(q:Br w)(d:Hu w W t v A bs)(y:(W::bs).Nodup)(r:JC w B (nS b a.length c) a)(J:f.size<=16777216)(hi:EV f f=false)(i:Ah t a=nM u):
  Cl prog 75 #[nP (nM ⟨W,0,nN⟩),nA #[nI nX k,nG f,nG f,sv,l,nS b a.length c,m]] w (BC W A (W::bs) (FR t f f ts a) w):=by
 have z:FR t f f ts a= .yes t []:=by unfold FR;rw[Qs (by simp[hi]),i];dsimp only;rw[Qr rfl]
 rw[z];have j:=GR f f;rw[hi]at j
 have E:=UD (∀g,Cl prog 107 #[nG f,nG (f++⟨#[47]⟩)] g fun e w'=>e= nR (.bool false)/\w'=g) fun g=>by
  have:=EH f (f++⟨#[47]⟩) g;rw[j]at this;exact this
 obtain⟨K,I,rest,x⟩:=EU d.at_ _ a _ rfl i;have o:=hZ (Dl q d r x);have F:=hZ d;have D:=hZ y;obtain⟨p,s⟩:=Ue a.length;rw[<-s]at o|-;clear hi z j q d r i s x y;go_enter func75,ntmps75
 go_wp2_with(first
  |(go_at_call 107;refine(E.o _).mono ?_;rintro e L ⟨rfl,rfl⟩)
  |(go_at_call_of 80 (Vl.bool true);refine(Bv _ _).mono ?_;rintro e M ⟨rfl,rfl⟩)
  |(go_at_call 108;refine(o.o _ gv).mono ?_;rintro e w2 ⟨rfl,h⟩;have C:=UD (Chg w w2 []) (ct cR h);have n:=UD (Ac w2 w.heap.size [nI nX k,nG f,nG f,sv,l,nS b p c,m] 108) ((Ac.new w [nI nX k,nG f,nG f,sv,l,nS b p c,m] 108).kept h);have G:=n.o.cell 1;have H:=n.o.cell 2;simp only[Qa,Qb]at G H;clear h))
 refine bodyPost_ret (results_tmp rfl _ _ _) rfl ?_;exact QE F.o (DJ.refl D.o) (by exact cg C.o)
def KV(t:Tr)(path frm:List BY):PV:=match Ah t frm with
 |none=> .no 4
 |some u=>Ga t path u []
def FL(W B:Nat)(c:Vl)(a b:Vl)(j:Nat)(v:Vl):Prop:=match j with
 |0=>v= nP (nM ⟨W,0,nN⟩)
 |1=>v= nP (nM ⟨B,4,nN⟩)
 |2=>v=a
 |3=>v= nP (nM ⟨W,0,nN⟩)
 |4=>v= nP (nM ⟨B,5,nN⟩)
 |5=>v=b
 |6=>v=c
 |_=>True
def Mu(W B:Nat)(a b:Vl)(j:Nat)(v:Vl):Prop:=match j with
 |6=>False
 |7=>False
 |8=>False
 |9=>False
 |_=>FL W B .nilIface a b j v
def ao(W:Nat)(h:Vl)(bs:List Nat)(g:PV)(c:Wl)(v:Vl)(w:Wl):Prop:=
 ∃f r v' a d e ys G,g= .yes f [r]/\v= nA (BJ r.toI (nS d r.toI.steps.length e)).toArray/\Dr c w r.toI (nS d r.toI.steps.length e) ys G/\Hu w W f v' h a/\DJ c (W::bs) (W::a)/\Chg c w (W::bs)/\∀b,b∈W::a->¬G b
theorem lB(h:p:=by go_simp;exact m _ _ Zh (b.put (by simp[Mu,FL]) cR)):p:=h
theorem ix(h:p:=by have R:rS a 3= nP (nM ⟨w.heap.size,0,nN⟩):=l.at 3 Yb;exact lB):p:=h
theorem z0a(h:p:=by have P:rS a 0= nP (nM ⟨W,0,nN⟩):=l.at 0 Yb;exact lB):p:=h
theorem NF(W:Nat)(t:Tr)(v J A:Vl)(bs:List Nat)(F L:Nat->Prop)(n i:Option Addr)(c j:Nat)(ts g:List BY)(k:Int)(p f:BY)(sv:Vl)(w:Wl)(h:UI W t v J bs F (nS n ts.length c) ts w)(H:JC w L (nS i g.length j) g)(x:Ah t g=nN):
  Cl prog 76 #[nP (nM ⟨W,0,nN⟩),nA #[nI nX k,nG p,nG f,sv,nS n ts.length c,nS i g.length j,A]] w (BC W J (W::bs) (KV t ts g) w):=by
 have E:=hZ (Im h.laid h.wat H x);have M:=UD (KV t ts g= .no 4) (by unfold KV;rw[x]);obtain⟨z,I⟩:=Ue ts.length;obtain⟨o,u⟩:=Ue g.length;rw[<-u]at E;rw[<-I,<-u];clear h H I u x;go_enter func76,ntmps76;go_wp2_with fail;obtain⟨B,q⟩:=Ue (World.drew (w.alloc (nC #[nI nX k,nG p,nG f,sv,nS n z c,nS i o j,A] 108)));have N:=hZ q;have C:Hid (Chg w B []):=by rw[q];exact hZ (((Chg.refl w []).alloc _).drew)
 have D:Hid (Ac B w.heap.size [nI nX k,nG p,nG f,sv,nS n z c,nS i o j,A] 108):=by rw[q];exact hZ (Ac.new w _ _).drew
 clear q;refine wp_region_any Yb ?_;change wpAny _ _ _ _ _ _ _ (World.drew _);rw[<-N.o];refine Gy _ (PX (Mu W w.heap.size (nS n z c) (nS i o j)) B) Yb ?_ ?_ _ ?_
 .intro U op a V O y l Z d b K m;match U,y with
  |0,rfl=>
   exact z0a
  |1,rfl=>
   exact ix
  |2,rfl=>
   have T:rS a 6= nP (nM ⟨w.heap.size,4,nN⟩):=b.2 1 (d ⟨1,.data⟩ Zh rfl);have r:=D.o.kept b.1;have s:=r.cell 4;simp only[Qa,Qb]at s;exact lB
  |3,rfl=>
   exact z0a
  |4,rfl=>
   exact ix
  |5,rfl=>
   have T:rS a 9= nP (nM ⟨w.heap.size,5,nN⟩):=b.2 4 (d ⟨4,.data⟩ Zh rfl);have r:=D.o.kept b.1;have s:=r.cell 5;simp only[Qa,Qb]at s;exact lB
  |6,rfl=>
   have Y:rS a 8= nP (nM ⟨W,0,nN⟩):=b.2 3 (d ⟨3,.data⟩ Zh rfl);have X:rS a 10= nS i o j:=b.2 5 (d ⟨5,.data⟩ Zh rfl);go_simp;go_at_call 108;refine(E.o V (C.o.trans b.1)).mono ?_;rintro e w1 ⟨G,Q⟩;unfold By at G;subst G;rw[M.o];exact⟨l.defers,rfl,((C.o.trans b.1).trans Q).none _⟩
  |7,rfl=>
   exact(b.2 6 (d ⟨6,.data⟩ Zh rfl):False).elim
  |8,rfl=>
   exact(b.2 7 (d ⟨7,.data⟩ Zh rfl):False).elim
  |9,rfl=>
   exact(b.2 8 (d ⟨8,.data⟩ Zh rfl):False).elim
  |10,rfl=>
   exact(b.2 9 (d ⟨9,.data⟩ Zh rfl):False).elim
  |_+11,y=>exact absurd y Zh
 .intro a wR O l S b;exact(b.2 6 (S 6 ZM):False).elim
 .exact⟨Chg.refl _ _,fun _ e=>by cases e⟩
theorem le(h:p:=by go_simp;exact s _ _ Zh (d.read ZM g (by simp[FL]) cR (.inl rfl))):p:=h
theorem i6(h:p:=by have L:rS a 3= nP (nM ⟨w.heap.size,0,nN⟩):=m.at 3 Yb;exact le):p:=h
theorem ac(h:p:=by have h0:rS a 0= nP (nM ⟨W,0,nN⟩):=m.at 0 Yb;exact le):p:=h
theorem NG(W:Nat)(t u:Tr)(v U vx:Vl)(bs:List Nat)(F F2:Nat->Prop)(E Q:Option Addr)(c R:Nat)(ts H:List BY)(k:Int)(p f:BY)(sv:Vl)(w:Wl)(h:UI W t v U bs F (nS E ts.length c) ts w)(hf:JC w F2 (nS Q H.length R) H)(T:Ah t H=nM u):
  Cl prog 76 #[nP (nM ⟨W,0,nN⟩),nA #[nI nX k,nG p,nG f,sv,nS E ts.length c,nS Q H.length R,vx]] w (BC W U (W::bs) (KV t ts H) w):=by
 obtain⟨vu,bu,rest,aa⟩:=EU h.wat.at_ _ H _ rfl T;have ab:=h.wat.fine.lead T;have an:=hZ (Dl h.laid h.wat hf aa);obtain⟨tu,xu,rfl⟩:=aa.at_.iface;have aH:=UD (∀z,Chg w z []->NQ (nF tu xu) u z) fun z hx=>Xq _ u _ bu z (Q8 _) (Ar ab.fits).1 (aa.at_.chg hx Zh);have HR:=UD (KV t ts H=Ga t ts u []) (by unfold KV;rw[T]);have aW:=h.wat.blk.lt;have aV:=h.big W Zh;have aN:=AP.lt _ _ _ h.wat.at_
 have ak:=UD (∀q z V o,Chg w q []->AP z u V o->BP q o->Chg q z []->Cl prog 104 #[nP (nM ⟨W,0,nN⟩),nS E ts.length c,V] z (Cq W U (W::(o++bs)) t u ts z)) fun q z V o h1 h2 L h4=>by
  have hz:=h1.size;have aL:=h1.trans h4;have hk:=h.kept aL;refine Xo W t u v U V bs o F E c ts z ⟨hk.laid,hk.wat,h2,ab,hk.tat, ?_,fun b D=> ?_,fun b D m=> ?_⟩
  .have hn:=h.nodup;simp only[List.nodup_cons,List.nodup_append,Qf,not_or]at hn|-;refine⟨⟨fun hm=>by have:=L.ge _ hm;omega,hn.1⟩,L.nodup,hn.2,fun x hx y hy e=> ?_⟩;subst e;have:=L.ge _ hx;have:=aN _ hy;omega
  .rcases Qh.1 D with l|l
   .omega
   .rcases Qf.1 l with l|l
    .have:=L.ge _ l;omega
    .exact h.big b (Qg _ l)
  .rcases Qh.1 D with l|l
   .exact h.apart b (by simp[l]) m
   .rcases Qf.1 l with l|l
    .have:=L.ge _ l;have:=h.tat.lt b m;omega
    .exact h.apart b (Qg _ l) m
 have HH:=hZ h;have aQ:=hZ ab;obtain⟨aG,J⟩:=Ue (Ga t ts u []);have am:=hZ J;obtain⟨tn,ad⟩:=Ue ts.length;obtain⟨fn,ai⟩:=Ue H.length;rw[<-ai]at an;rw[<-ad]at ak;have aR:=hZ ad;rw[HR.o,<-J,<-ad,<-ai];clear h hf ad ai T aa ab J;go_enter func76,ntmps76;go_wp2_with fail;obtain⟨q,ae⟩:=Ue (World.drew (w.alloc (nC #[nI nX k,nG p,nG f,sv,nS E tn c,nS Q fn R,vx] 108)));have aI:=hZ ae;have O:Hid (Chg w q []):=by rw[ae];exact hZ (((Chg.refl w []).alloc _).drew)
 have al:Hid (Ac q w.heap.size [nI nX k,nG p,nG f,sv,nS E tn c,nS Q fn R,vx] 108):=by rw[ae];exact hZ (Ac.new w _ _).drew
 clear ae;refine wp_region_any Yb ?_;change wpAny _ _ _ _ _ _ _ (World.drew _);rw[<-aI.o];refine Dg _ (IL q (FL W w.heap.size (nF tu xu) (nS E tn c) (nS Q fn R)) (fun v w'=>∃o,AP w' u v o/\BP q o/\Chg q w' []) (ao W U bs aG q) (fun v w'=>BC W U (W::bs) aG w (nR v) w')) Yb ?_ ?_ _ ?_
 .intro ii op a wa A ho m g B I d K s;match ii,ho with
  |0,rfl=>
   exact ac
  |1,rfl=>
   exact i6
  |2,rfl=>
   have hp:rS a 6= nP (nM ⟨w.heap.size,4,nN⟩):=d.vals 1 ZM (B ⟨1,.data⟩ Zh rfl)
   have K:A 8=false:=by
    cases e:A 8 with
    |false=>rfl
    |true=>have:=d.o8 e _ (by decide:2<8);rw[g]at this;cases this
   have ag:=al.o.kept (d.early K);have I:=ag.cell 4;simp only[Qa,Qb]at I;exact le
  |3,rfl=>
   exact ac
  |4,rfl=>
   exact i6
  |5,rfl=>
   have hp:rS a 9= nP (nM ⟨w.heap.size,5,nN⟩):=d.vals 4 ZM (B ⟨4,.data⟩ Zh rfl)
   have K:A 8=false:=by
    cases e:A 8 with
    |false=>rfl
    |true=>have:=d.o8 e _ (by decide:5<8);rw[g]at this;cases this
   have ag:=al.o.kept (d.early K);have I:=ag.cell 5;simp only[Qa,Qb]at I;exact le
  |6,rfl=>
   have K:A 8=false:=by
    cases e:A 8 with
    |false=>rfl
    |true=>have:=d.o8 e _ (by decide:6<8);rw[g]at this;cases this
   have h8:rS a 8= nP (nM ⟨W,0,nN⟩):=d.vals 3 ZM (B ⟨3,.data⟩ Zh rfl);have aS:rS a 10= nS Q fn R:=d.vals 5 ZM (B ⟨5,.data⟩ Zh rfl);go_simp;go_at_call 108;refine(an.o wa (O.o.trans (d.early K))).mono ?_;rintro e w1 ⟨rfl,h1⟩;exact s _ _ Zh (d.read ZM g rfl h1 (.inr rfl))
  |7,rfl=>
   have K:A 8=false:=by
    cases e:A 8 with
    |false=>rfl
    |true=>have:=d.o8 e _ (by decide:7<8);rw[g]at this;cases this
   have P:=B ⟨6,.data⟩ Zh rfl;have aK:a.tmps.getD 11 undef= nF tu xu:=d.vals 6 ZM P;have ah:=d.early K;obtain⟨ff,aJ,m1,m2⟩:=aH.o wa (O.o.trans ah);rw[Qr (by simp[Region.wanted])];refine I3 _ _ _ rfl _ aK ff aJ m1 _ m2 ?_;rintro e w1 ⟨V,o,rfl,Z,M,N⟩;exact⟨V,rfl,s _ _ Zh (d.made g P ⟨o,Z,⟨M.nodup,fun b D=>Q7 ah.size (M.ge b D)⟩,ah.trans N⟩ N)⟩
  |8,rfl=>
   have d7:=B ⟨7,.data⟩ Zh rfl;have d2:=B ⟨2,.data⟩ Zh rfl;have P:=d.o7 d7;have d5:=I 6 _ rfl P ⟨5,.data⟩ Zh rfl
   have au:∀j,j<8->A j=true:=fun j hj=>by
    match j,hj with
    |0,_=>exact B ⟨0,.data⟩ Zh rfl
    |1,_=>exact I 2 _ rfl d2 ⟨1,.data⟩ Zh rfl
    |2,_=>exact d2
    |3,_=>exact I 6 _ rfl P ⟨3,.data⟩ Zh rfl
    |4,_=>exact I 5 _ rfl d5 ⟨4,.data⟩ Zh rfl
    |5,_=>exact d5
    |6,_=>exact P
    |7,_=>exact d7
   have l:rS a 5= nP (nM ⟨W,0,nN⟩):=d.vals 0 ZM (au 0 ZM);have h7:rS a 7= nS E tn c:=d.vals 2 ZM d2;obtain⟨o,Z,M,N⟩:=d.p7 d7 g;obtain⟨tc,xc,aq⟩:=Z.iface;rw[aq]at Z;have aT:rS a 12= nF tc xc:=aq;have HA:=ak.o q wa _ o O.o Z M N;go_simp;go_at_call 104;refine HA.mono ?_;intro e w1 aO;have hz:=O.o.size;rcases NS [] aO with⟨n,X,S,C⟩|⟨t',X,v',ap,aX,ys,G,S,C,g4,g5,g6,g7⟩
   .unfold By at S;subst S;rw[am.o,X]
    exact⟨m.defers,rfl,(O.o.none _).trans ((N.none _).step C (fun i hi T=>by
     rcases Qh.1 hi with h|h
     .simp[h]
     .rcases Qf.1 h with h|h
      .have:=M.ge i h;omega
      .exact Qg _ h))⟩
   .subst S;obtain⟨sa,sc,rfl,_⟩:=C.row.form;have aP:=N.size
    exact s _ _ Zh (d.added g au ⟨t',_,v',ap,sa,sc,ys,G,am.o.trans X,rfl,⟨C.row,C.inn,C.steps,fun b D=>by have:=C.new b D;omega⟩,g4,⟨g5.nodup,fun b D=>by
     rcases g5.come b D with h|h
     .rcases Qh.1 h with h|h
      .exact .inl (by simp[h])
      .rcases Qf.1 h with h|h
       .exact .inr (M.ge b h)
       .exact .inl (Qg _ h)
     .exact .inr (Q7 aP h)⟩,(N.none _).step g6 (fun i hi T=>by
     rcases Qh.1 hi with h|h
     .simp[h]
     .rcases Qf.1 h with h|h
      .have:=M.ge i h;omega
      .exact Qg _ h),g7⟩)
  |9,rfl=>
   have d8:=B ⟨8,.data⟩ Zh rfl;obtain⟨t',r,v',ap,sa,sc,ys,G,X,S,C,g4,g5,g6,g7⟩:=d.p8 d8 g;have ar:a.tmps.getD 13 undef= nA (BJ r.toI (nS sa r.toI.steps.length sc)).toArray:=S;unfold BJ at ar;have aU:a.tmps[13]?.getD undef= nA [Vl.int nX r.toI.kind,nG r.toI.path,nG r.toI.frm,nS sa r.toI.steps.length sc].toArray:=by rw[<-Qp];exact ar
   go_simp;refine s _ _ Zh (d.built g d8 ?_);rw[X];exact GC O.o C g4 g5 g6 g7 (Ac.new wa (BJ r.toI (nS sa r.toI.steps.length sc)) 42) (Q8 _) ((Chg.refl wa []).alloc _)
  |10,rfl=>
   have d9:=B ⟨9,.data⟩ Zh rfl;have aM:=d.end_ d9;go_simp;exact s _ _ Zh (by rw[<-Qp];exact aM)
  |_+11,ho=>exact absurd ho Zh
 .intro a wR A m hd d;have J:=d.p9 (hd 9 ZM);rw[<-d.p10 (hd 10 ZM)]at J;change BC _ _ _ _ _ (nR (a.tmps.getD 4 undef)) wR at J;have af:=hZ J;clear d hd J;have Y:=m.form' [5,6,7,8,9,10,11,12,13,14,4] Yb;have av:=m.defers;obtain⟨y,df⟩:=a;clear m;dsimp only at Y av af;simp only[List.foldl_cons,List.foldl_nil]at Y;obtain⟨u5,aB⟩:=Ue (y.getD 5 undef);obtain⟨u6,aC⟩:=Ue (y.getD 6 undef);obtain⟨u7,aD⟩:=Ue (y.getD 7 undef);obtain⟨u8,aE⟩:=Ue (y.getD 8 undef);obtain⟨u9,aF⟩:=Ue (y.getD 9 undef);obtain⟨u10,aw⟩:=Ue (y.getD 10 undef);obtain⟨u11,ax⟩:=Ue (y.getD 11 undef);obtain⟨u12,ay⟩:=Ue (y.getD 12 undef);obtain⟨u13,az⟩:=Ue (y.getD 13 undef);obtain⟨u14,aA⟩:=Ue (y.getD 14 undef);obtain⟨u4,aj⟩:=Ue (y.getD 4 undef);rw[<-aB,<-aC,<-aD,<-aE,<-aF,<-aw,<-ax,<-ay,<-az,<-aA,<-aj]at Y;rw[<-aj]at af;clear aB aC aD aE aF aw ax ay az aA aj;simp only[List.setIfInBounds_toArray,List.set_cons_zero,List.set_cons_succ]at Y;subst Y;subst av;go_wp2_with fail;refine bodyPost_ret (results_tmp rfl _ _ _) rfl ?_;exact af.o
 .exact⟨fun _=>Chg.refl _ _,(fun _ _ e=>by cases e),(fun e=>by cases e),(fun e=>by cases e),(fun e=>by cases e),(fun e=>by cases e),(fun e=>by cases e),(fun e=>by cases e),(fun e=>by cases e),(fun e=>by cases e)⟩
def Rl(W B:Nat)(a c b:Vl)(j:Nat)(v:Vl):Prop:=match j with
 |0=>v=a
 |1=>v= nP (nM ⟨W,0,nN⟩)
 |2=>v= nP (nM ⟨B,4,nN⟩)
 |3=>v=b
 |4=>v=c
 |_=>True
def an(W:Nat)(j:Vl)(d:List Nat)(i:PV)(h:CW)(c:Wl)(v:Vl)(w:Wl):Prop:=
 ∃g r v' a e f ys G,i= .yes g [r,h]/\v= nA (BJ r.toI (nS e r.toI.steps.length f)).toArray/\Dr c w r.toI (nS e r.toI.steps.length f) ys G/\Hu w W g v' j a/\DJ c d (W::a)/\Chg c w d/\∀b,b∈W::a->¬G b
theorem lL(h:p:=by go_simp;exact C _ _ Zh (d.read ZM (by simp[Rl]))):p:=h
theorem Pk(W:Nat)(t u:Tr)(v z vx:Vl)(bs:List Nat)(F F2:Nat->Prop)(B I:Option Addr)(c J:Nat)(ts g:List BY)(k:Int)(p f:BY)(sv:Vl)(w:Wl)(h:UI W t v z bs F (nS B ts.length c) ts w)(hf:UI W t v z bs F2 (nS I g.length J) g w)(aR:g≠[])(br:f.size<=16777216)(hi:EV p f=false)(aS:p≠f)(L:Ah t g=nM u):
  Cl prog 75 #[nP (nM ⟨W,0,nN⟩),nA #[nI nX k,nG p,nG f,sv,nS B ts.length c,nS I g.length J,vx]] w (BC W z (W::bs) (FR t p f ts g) w):=by
 have hr:FR t p f ts g=Ga (A8 t g) ts u [⟨1,A6 g,Dz,Ai u⟩]:=by unfold FR;rw[Qs (by simp[hi]),L];dsimp only;rw[Qs aS]
 have hp:=GR p f;rw[hi]at hp
 have HP:=UD (∀j,Cl prog 107 #[nG p,nG (f++⟨#[47]⟩)] j fun e w'=>e= nR (.bool false)/\w'=j) fun j=>by
  have:=EH p (f++⟨#[47]⟩) j;rw[hp]at this;exact this
 obtain⟨bB,bi,bx,aO⟩:=EU h.wat.at_ _ g _ rfl L;have ak:=hZ (Dl h.laid h.wat hf.tat aO);have aP:=h.wat.fine.lead L;have bd:=AP.lt _ _ _ h.wat.at_;have bp:=h.wat.blk.lt;have bo:=h.big W Zh
 have af:=UD (∀j,Chg w j []->Cl prog 105 #[nP (nM ⟨W,0,nN⟩),nS I g.length J] j (T6 W z (W::bs) (A8 t g) u (AC 1 g (Ai u)) j)) fun j hx=>by
  have:=Xw W t v z bs F2 I J g j (hf.kept hx) aR;rwa[JF L]at this
 obtain⟨t1,au⟩:=Ue (A8 t g);obtain⟨N,aq⟩:=Ue ((⟨1,A6 g,Dz,Ai u⟩:CW));rw[<-au,<-aq]at hr;rw[<-au,show AC 1 g (Ai u)=N.toI by rw[aq];rfl]at af
 have ai:=UD (∀j vu x v1 s,Chg w j (W::bs)->AP j u vu x->Hu j W t1 v1 z s->DJ w (W::bs) (W::(x++s))->Cl prog 104 #[nP (nM ⟨W,0,nN⟩),nS B ts.length c,vu] j (Cq W z (W::(x++s)) t1 u ts j)) fun j vu x v1 s h1 h2 h3 h4=>by
  have hz:=h1.size;refine Xo W t1 u v1 z vu s x F B c ts j ⟨h.laid.kept h1 h.big,h3,h2,aP,h.tat.kept h1 h.apart,h4.nodup,fun b Z=> ?_,fun b Z m=> ?_⟩
  .rcases h4.come b Z with S|S
   .exact h.big b S
   .omega
  .rcases h4.come b Z with S|S
   .exact h.apart b S m
   .have:=h.tat.lt b m;omega
 obtain⟨a2,ar⟩:=Ue (Ga t1 ts u [N]);have aC:=hZ ar;rw[hr,<-ar];obtain⟨tn,av⟩:=Ue ts.length;obtain⟨fn,ah⟩:=Ue g.length;obtain⟨l,ab⟩:=Ue N.toI;have a5:=hZ ab;rw[<-ah,<-ab]at af;rw[<-ah]at ak;rw[<-av]at ai;rw[<-av,<-ah];have HH:=hZ h;have bf:¬p.toList=f.toList:=fun e=>aS (DK (by rwa[Lib.toList_data,Lib.toList_data]at e));have bt:(p.toList==f.toList)=false:=by simpa using bf
 clear hr hp hi h hf L aO aP ah av ar ab au aq aR;go_enter func75,ntmps75
 go_wp2_with(first
  |(go_at_call 107;refine(HP.o _).mono ?_;rintro e w1 ⟨rfl,rfl⟩)
  |(go_at_call_of 80 (Vl.bool true);refine(Bv _ _).mono ?_;rintro e A ⟨rfl,rfl⟩)
  |(go_at_call 108;refine(ak.o _ gv).mono ?_;rintro e w2 ⟨rfl,h⟩;have H2:=UD (Chg w w2 []) (ct cR h);have O:=UD (Ac w2 w.heap.size [nI nX k,nG p,nG f,sv,nS B tn c,nS I fn J,vx] 108) ((Ac.new w [nI nX k,nG p,nG f,sv,nS B tn c,nS I fn J,vx] 108).kept h);have x1:=O.o.cell 1;have x2:=O.o.cell 2;have x5:=O.o.cell 5;simp only[Qa,Qb]at x1 x2 x5;clear h)
  |(go_at_call 105;refine(af.o _ (by exact cg H2.o)).mono ?_;rintro e q ⟨vu,x,v1,s,bz,bh,G1,rfl,k1,k2,k3,k4,k5,k6⟩;have ae:=UD (Chg w2 q (W::bs)) (ct cR k5);have a8:=hZ k5.size;have K1:=hZ k1;have K2:=hZ k2;have K3:=hZ k3;have K4:=hZ k4;have K6:=hZ k6;obtain⟨D,E,rfl,_⟩:=k1.row.form;clear k1 k2 k3 k4 k5 k6)
  |(refine Ae rfl _ _ _ rfl q.heap.size (BJ l (nS D l.steps.length E)) ZN ZN 42 Ef (by exact Ac.new q Ef 42) A0 rfl (Dx _ _ _ _) ?_;intro w7 a1 aK aQ;have az:=hZ aK;have aA:=hZ aQ;have aD:=hZ a1;clear a1 aK aQ))
 have ax:=aD.o;have ax:w7.heap.size=q.heap.size+1:=by simpa using ax
 have a0:=H2.o.size;have bu:=ae.o.size;have bv:=a8.o;have bq:=O.o.lt;have aG:Chg q w7 []:=(Chg.step (Chg.alloc cR _) aA.o (fun i hi L=>by simp at hi;omega));obtain⟨A,ad⟩:=Ue (World.drew w7);have a7:=hZ ad;have R:Chg q A []:=by rw[ad];exact aG.drew
 have bw:A.heap.size=q.heap.size+1:=by rw[ad];exact ax
 have aJ:Ac A q.heap.size (BJ l (nS D l.steps.length E)) 42:=by rw[ad];exact az.o.drew
 have al:Chg w A (W::bs):=(H2.o.none _).trans (ae.o.trans (R.none _))
 have be:∀y,y∈W::bs->y<w.heap.size:=fun y hy=>by
  rcases Qh.1 hy with h|h
  .omega
  .exact bd y h
 have aL:Ac A w.heap.size [nI nX k,nG p,nG f,sv,nS B tn c,nS I fn J,vx] 108:=(O.o.kept ae.o (fun hm=>Nat.lt_irrefl _ (be _ hm))).kept R;have am:DJ w (W::bs) (W::(x++s)):=K4.o.back a0;have aM:Dr w A l (nS D l.steps.length E) bh G1:=K1.o.keptG (w0:=w) R Zh a0;have ao:=K2.o.chg R Zh;have aN:=K3.o.kept R;obtain⟨tu,xu,rfl⟩:=ao.iface;have aI:=ai.o A _ x v1 s al ao aN am
 have bc:q.heap.size∉W::(x++s):=fun hm=>by
  rcases Qh.1 hm with h|h
  .have:=K3.o.blk.lt;omega
  .rcases Qf.1 h with h|h
   .have:=AP.lt _ _ _ K2.o _ h;omega
   .have:=AP.lt _ _ _ K3.o.at_ _ h;omega
 have H4:=hZ al;have ay:=hZ aJ;have a4:=hZ aL;have aB:=hZ am;have a6:=hZ aM;have a3:=hZ aI;clear ad aG R aJ al aL am aM ao aN aI aD az aA ae H2 O x1 x2 x5 K1 K2 K3 K4 ak af HP ai;refine wp_region_any Yb ?_;change wpAny _ _ _ _ _ _ _ (World.drew _);rw[<-a7.o];refine Dg _ (Kf A (Rl W w.heap.size (nA (BJ l (nS D l.steps.length E)).toArray) (nF tu xu) (nS B tn c)) (an W z (W::(x++s)) a2 N A) (fun v w'=>BC W z (W::bs) a2 w (nR v) w')) Yb ?_ ?_ _ ?_
 .intro ii op a wa o ho m U M aa d K C;match ii,ho with
  |0,rfl=>
   have h6:rS a 6= nP (nM ⟨q.heap.size,0,nN⟩):=m.at 6 Yb
   have a9:Ac wa q.heap.size (BJ l (nS D l.steps.length E)) 42:=by
    cases e5:o 5 with
    |false=>rw[d.early e5];exact ay.o
    |true=>
     cases V:o 6 with
     |false=>
      obtain⟨_,_,_,_,_,_,_,_,_,_,_,_,_,Y,_⟩:=d.p5 e5 V;exact ay.o.kept Y bc
     |true=>have:=aa 6 _ rfl V ⟨0,.data⟩ Zh rfl;rw[U]at this;cases this
   obtain⟨_,_,y0,y1,y2,y3⟩:=a9.cells4;go_simp;exact C _ _ Zh (d.read ZM rfl)
  |1,rfl=>
   have h0:rS a 0= nP (nM ⟨W,0,nN⟩):=m.at 0 Yb;exact lL
  |2,rfl=>
   have h3:rS a 3= nP (nM ⟨w.heap.size,0,nN⟩):=m.at 3 Yb;exact lL
  |3,rfl=>
   have hp:rS a 37= nP (nM ⟨w.heap.size,4,nN⟩):=d.vals 2 ZM (M ⟨2,.data⟩ Zh rfl)
   have e5:o 5=false:=by
    cases e:o 5 with
    |false=>rfl
    |true=>have:=aa 5 _ rfl e ⟨3,.data⟩ Zh rfl;rw[U]at this;cases this
   have hw:=d.early e5;subst hw;have ba:=a4.o.cell 4;simp only[Qa,Qb]at ba;exact lL
  |4,rfl=>
   have S:rS a 5= nF tu xu:=m.at 5 Yb;exact lL
  |5,rfl=>
   have bk:rS a 36= nP (nM ⟨W,0,nN⟩):=d.vals 1 ZM (M ⟨1,.data⟩ Zh rfl);have bl:rS a 38= nS B tn c:=d.vals 3 ZM (M ⟨3,.data⟩ Zh rfl);have bm:rS a 39= nF tu xu:=d.vals 4 ZM (M ⟨4,.data⟩ Zh rfl);have hw:=d.early U;subst hw
   have V:o 6=false:=by
    cases e:o 6 with
    |false=>rfl
    |true=>have:=aa 6 _ rfl e ⟨5,.data⟩ Zh rfl;rw[U]at this;cases this
   have e7:o 7=false:=by
    cases e:o 7 with
    |false=>rfl
    |true=>have:=aa 7 _ rfl e ⟨6,.data⟩ Zh rfl;rw[V]at this;cases this
   go_simp;go_at_call 104;refine a3.o.mono ?_;intro e w1 bg;rcases NS [N] bg with⟨n,X,P,Q⟩|⟨t',X,v',aE,bA,ys,G,P,Q,g4,g5,Y,g7⟩
   .unfold By at P;subst P;rw[aC.o,X];have hz:=H4.o.size;exact⟨m.defers,rfl,H4.o.step Q (fun i hi L=>by rcases aB.o.come i hi with h|h;exact h;omega)⟩
   .subst P;obtain⟨sa,sc,rfl,_⟩:=Q.row.form;exact C _ _ Zh (d.added V e7 ⟨t',_,v',aE,sa,sc,ys,G,aC.o.trans X,rfl,Q,g4,g5,Y,g7⟩)
  |6,rfl=>
   have d5:=M ⟨5,.data⟩ Zh rfl;have d0:=M ⟨0,.data⟩ Zh rfl
   have e7:o 7=false:=by
    cases e:o 7 with
    |false=>rfl
    |true=>have:=aa 7 _ rfl e ⟨6,.data⟩ Zh rfl;rw[U]at this;cases this
   obtain⟨t',r,v',aE,sa,sc,ys,G,X,P,Q,g4,g5,Y,g7⟩:=d.p5 d5 U;have aH:a.tmps.getD 40 undef= nA (BJ r.toI (nS sa r.toI.steps.length sc)).toArray:=P;have aF:a.tmps.getD 35 undef= nA (BJ l (nS D l.steps.length E)).toArray:=d.vals 0 ZM d0;unfold BJ at aH aF;have bn:a.tmps[40]?.getD undef= nA [Vl.int nX r.toI.kind,nG r.toI.path,nG r.toI.frm,nS sa r.toI.steps.length sc].toArray:=by rw[<-Qp];exact aH
   have bj:a.tmps[35]?.getD undef= nA [Vl.int nX l.kind,nG l.path,nG l.frm,nS D l.steps.length E].toArray:=by rw[<-Qp];exact aF
   have HU:=a6.o;go_simp;refine C _ _ Zh (d.built d5 e7 ?_);have ab:=a5.o;subst ab;rw[X];exact Yn HU aB.o H4.o (fun b Z=>K6.o b Z) Q g4 g5 Y g7 (Ac.new wa (BJ N.toI (nS D N.toI.steps.length E)++BJ r.toI (nS sa r.toI.steps.length sc)) 42) (Q8 _) ((Chg.refl wa []).alloc _)
  |7,rfl=>
   have d6:=M ⟨6,.data⟩ Zh rfl;have bb:=d.end_;go_simp;exact C _ _ Zh (by rw[<-Qp];exact bb)
  |_+8,ho=>exact absurd ho Zh
 .intro a wR o m hd d;have ag:=d.p6 (hd 6 ZM);rw[<-d.p7 (hd 7 ZM)]at ag;change BC _ _ _ _ _ (nR (a.tmps.getD 4 undef)) wR at ag;have aj:=hZ ag;clear d hd ag;have T:=m.form' [35,36,37,38,39,40,41,4] Yb;have ap:=m.defers;obtain⟨H,df⟩:=a;clear m;dsimp only at T ap aj;simp only[List.foldl_cons,List.foldl_nil]at T;obtain⟨u35,aT⟩:=Ue (H.getD 35 undef);obtain⟨u36,aU⟩:=Ue (H.getD 36 undef);obtain⟨u37,aV⟩:=Ue (H.getD 37 undef);obtain⟨u38,aW⟩:=Ue (H.getD 38 undef);obtain⟨u39,aX⟩:=Ue (H.getD 39 undef);obtain⟨u40,aY⟩:=Ue (H.getD 40 undef);obtain⟨u41,aZ⟩:=Ue (H.getD 41 undef);obtain⟨u4,aw⟩:=Ue (H.getD 4 undef);rw[<-aT,<-aU,<-aV,<-aW,<-aX,<-aY,<-aZ,<-aw]at T;rw[<-aw]at aj;clear aT aU aV aW aX aY aZ aw;dsimp only[Act.put]at T ap;simp only[List.setIfInBounds_toArray,List.set_cons_zero,List.set_cons_succ]at T;subst T;subst ap;go_wp2_with fail;refine bodyPost_ret (results_tmp rfl _ _ _) rfl ?_;exact aj.o
 .exact⟨fun _=>rfl,(fun _ _ e=>by cases e),(fun e=>by cases e),(fun e=>by cases e),(fun e=>by cases e)⟩
def CP(k:Int):Bool:=decide (1<=k/\k<=6)
theorem n9(h:p:=by go_enter func79,ntmps79;go_wp2;exact bodyPost_ret (results_tmp3 rfl _ _ _) rfl ⟨rfl,Chg.refl _ _⟩):p:=h
theorem Jm(k:Int)(w:Wl):Cl prog 79 #[nI nX k] w fun e w'=>e= nR (nT #[.bool (AO k),.bool (AN k),.bool (CP k)])/\Chg w w' []:=by
 have o:AO k=(decide (k=4)||decide (k=5)):=rfl;have p:AN k=(decide (k=1)||decide (k=3)||decide (k=6)):=rfl;by_cases a:k=1
 .subst a;exact n9
 by_cases b:k=2
 .subst b;exact n9
 by_cases c:k=3
 .subst c;exact n9
 by_cases d:k=4
 .subst d;exact n9
 by_cases f:k=5
 .subst f;exact n9
 by_cases g:k=6
 .subst g;exact n9
 have h:decide (k=1)=false:=by simpa using a
 have q:decide (k=2)=false:=by simpa using b
 have i:decide (k=3)=false:=by simpa using c
 have j:decide (k=4)=false:=by simpa using d
 have l:decide (k=5)=false:=by simpa using f
 have m:decide (k=6)=false:=by simpa using g
 have n:CP k=false:=by unfold CP;rw[decide_eq_false_iff_not];omega
 rw[o,p,n,h,i,j,l,m];exact n9
def HJ(W:Nat):List Vl:=[72,73,74,75,76,77].map fun n=> .func (.func n) #[nP (nM ⟨W,0,nN⟩)] #[]
theorem ZA(W:Nat)(w:Wl):Cl prog 38 #[nP (nM ⟨W,0,nN⟩)] w fun e w'=>e= nR (nS (nM ⟨w.heap.size,0,nN⟩) 6 6)/\Ac w' w.heap.size (HJ W) 110/\Chg w w' []:=by
 go_enter func38,ntmps38;go_wp2;refine bodyPost_ret (results_tmp rfl _ _ _) rfl ⟨rfl, ?_,by exact cg cR⟩;exact Ac.new w (HJ W) _
end
section
open Go Go.Shelf Go.RowKit Go.Lib Tree Ptr

end
section
open _root_.Go.Proofs.Tryz
open Go Go.Shelf Go.RowKit Go.Lib Tree Ptr
structure UH(w:Wl)(o:Bq)(path frm:List BY)(x:Tr)(slp slf vx:Vl)(bx:List Nat)(F F2:Nat->Prop):Prop where
 tpath:JC w F slp path
 tfrm:AO o.kind=true->JC w F2 slf frm
 val:AN o.kind=true->AP w x vx bx/\Bt x
 pathP:AD o.path=nM path
 frmP:AO o.kind=true->AD o.frm=nM frm
 small:o.frm.size<=16777216
theorem BC.mono{W:Nat}{g:Vl}{d f:List Nat}{c:PV}{w w':Wl}{e:Ending}(h:BC W g d c w e w')(a:∀b,b∈d->b∈f):BC W g f c w e w':=by
 unfold BC at h|-;cases c with
 |no n=>exact⟨h.1,h.2.mono fun _ _=>a _⟩
 |yes r s=>
  obtain⟨v',i,q,xs,G,j,k,l,m,o,p⟩:=h;exact⟨v',i,q,xs,G,j,k,l,m.mono a,o.mono fun _ _=>a _,p⟩
theorem Z1{k:Int}(h:CP k=true):k=1\/k=2\/k=3\/k=4\/k=5\/k=6:=by
 unfold CP at h;have:=of_decide_eq_true h;omega
theorem fc{p:Prop}(h:p:=by rw[e];rfl):p:=h
theorem aD(W:Nat)(t:Tr)(v d:Vl)(bs:List Nat)(o:Bq)(path frm:List BY)(x:Tr)(sv slp z f:Vl)(g:List Nat)(F q:Nat->Prop)(w:Wl)(A:Br w)(B:Hu w W t v d bs)(a:UH w o path frm x slp z f g F q)(K:(W::(g++bs)).Nodup)(E:∀b,b∈W::(g++bs)->10<=b)(I:∀b,b∈W::(g++bs)->¬F b)(M:∀b,b∈W::(g++bs)->¬q b)(Q:CP o.kind=true):
  ∃n:Nat,(HJ W)[(o.kind-1).toNat]? =nM (.func (.func n) #[nP (nM ⟨W,0,nN⟩)] #[])/\
   Cl prog n #[nP (nM ⟨W,0,nN⟩),nA #[nI nX o.kind,nG o.path,nG o.frm,sv,slp,z,f]] w (BC W d (W::(g++bs)) (Da t o path frm x) w):=by
 have p:∀b,b∈W::bs->b∈W::(g++bs):=fun b m=>by
  rcases Qh.1 m with h|h
  .simp[h]
  .simp[h]
 have G:(W::bs).Nodup:=K.sublist Zh;obtain⟨l,c,rfl,_⟩:=a.tpath.row.cell;rw[Ao]at a|-;have C:UI W t v d bs F (nS l path.length c) path w:=⟨A,B,a.tpath,G,fun b m=>E b (p b m),fun b m=>I b (p b m)⟩;have D:AN o.kind=true->Sx W t x v d f bs g F (nS l path.length c) path w:=fun k=>⟨A,B,(a.val k).1,(a.val k).2,a.tpath,K,E,I⟩;rcases Z1 Q with e|e|e|e|e|e
 .refine⟨72,by rw[e];rfl, ?_⟩;have i:Da t o path frm x=Ga t path x []:=by unfold Da;rw[Qr e]
  rw[i];exact YG W t x v d f bs g F l c path _ _ _ sv z w (D fc)
 .refine⟨73,by rw[e];rfl, ?_⟩;have i:Da t o path frm x=YN t path:=by unfold Da YN;rw[Qs Zj,Qr e];rfl
  rw[i];exact(Tw W t v d bs F l c path _ _ _ sv z f w C).mono fun e w' h=>h.mono p
 .refine⟨74,by rw[e];rfl, ?_⟩;have i:Da t o path frm x=Uq t path x:=by unfold Da Uq;rw[Qs Zj,Qs Zj,Qr e];rfl
  rw[i];exact Ry W t x v d f bs g F l c path _ _ _ sv z w (D fc)
 .refine⟨75,by rw[e];rfl, ?_⟩;have i:Da t o path frm x=FR t o.path o.frm path frm:=by unfold Da FR;rw[Qs Zj,Qs Zj,Qs Zj,Qr e];rfl
  rw[i];have k:AO o.kind=true:=fc
  have j:=a.tfrm k;have P:=a.frmP k;obtain⟨r,s,rfl,_⟩:=j.row.cell;rw[Ao]at j|-;have O:UI W t v d bs q (nS r frm.length s) frm w:=⟨A,B,j,G,fun b m=>E b (p b m),fun b m=>M b (p b m)⟩;by_cases hi:EV o.path o.frm=true
  .exact Rw W d sv f _ _ _ t path frm _ _ _ w a.small hi
  .have hi:EV o.path o.frm=false:=by simpa using hi
   cases y:Ah t frm with
   |none=>exact Rx W t v d f bs q r s path frm _ _ _ sv _ _ w A B j a.small hi y
   |some u=>
    by_cases H:o.path=o.frm
    .rw[H]at hi|-;exact(NH W t u v d f bs q r s path frm _ _ sv _ w A B G j a.small hi y).mono fun e w' h=>h.mono p
    .have R:frm≠[]:=fun L=>by
      have J:=(D7 P).1 L;rw[J]at hi;have N:=Jb a.pathP hi;exact H (by rw[J];exact(D7 a.pathP).1 N)
     exact(Pk W t u v d f bs F q l r c s path frm _ _ _ sv w C O R a.small hi H y).mono fun e w' h=>h.mono p
 .refine⟨76,by rw[e];rfl, ?_⟩;have i:Da t o path frm x=KV t path frm:=by unfold Da KV;rw[Qs Zj,Qs Zj,Qs Zj,Qs Zj,Qr e];rfl
  rw[i];have k:AO o.kind=true:=fc
  have j:=a.tfrm k;obtain⟨r,s,rfl,_⟩:=j.row.cell;rw[Ao]at j|-;cases y:Ah t frm with
  |none=>exact(NF W t v d f bs F q l r c s path frm _ _ _ sv w C j y).mono fun e w' h=>h.mono p
  |some u=>exact(NG W t u v d f bs F q l r c s path frm _ _ _ sv w C j y).mono fun e w' h=>h.mono p
 .refine⟨77,by rw[e];rfl, ?_⟩;have i:Da t o path frm x=M6 t path x:=by unfold Da M6;rw[Qs Zj,Qs Zj,Qs Zj,Qs Zj,Qs Zj];rfl
  rw[i];have k:AN o.kind=true:=fc
  exact Xr W t x v d f bs g F l c path _ _ _ sv z (a.val k).2.good w (D k)
theorem M9(t:Tr)(F:Nat->Prop)(d:Nat)(w:Wl)(h:CG w F d t)(g:∀b,F b->b<w.heap.size)(x:(Ag t).nodes<=65536):
  Cl prog 37 #[nP (nM ⟨d,0,nN⟩)] w (Ht t w):=by
 obtain⟨v,k,hi,u⟩:=h;have p:=UD (∀a,Chg w a []->Cl prog 71 #[nA #[v]] a (Ht t a)) fun a c=>Vt _ t F v a (Q8 _) x (hi.kept (c.keepsF g) (fun _ h=>h)) (fun b i=>Q6 (g b i) c.size);have o:=UD (∀a,Chg w a []->Cl prog 32 #[nP (nM ⟨d,0,nN⟩)] a fun e w'=>e= nR (nA #[v])/\Chg a w' []) fun a c=>IG F d v a (c.keeps k) (hi.iface) (Q6 u c.size);obtain⟨A,C,rfl⟩:=hi.iface;clear hi k g;go_enter func37,ntmps37
 go_wp2_with(first
  |(go_at_call 32;refine(o.o _ cR).mono ?_;rintro e B ⟨rfl,j⟩;have f:=hZ j;clear j)
  |(go_at_call 71;refine(p.o _ f.o).mono ?_;rintro e w2 ⟨y,G,rfl,l,m,n⟩;have q:=hZ l;have r:=hZ m;have s:=hZ n;clear l m n))
 refine bodyPost_ret (results_tmp rfl _ _ _) rfl ?_;have z:=f.o.size;exact⟨y,G,rfl,q.o,f.o.trans r.o,fun b i=>by have:=s.o b i;omega⟩
end
section
open Go Go.RowKit Tree Ptr

end
section
open _root_.Go.Proofs.Tryz
open Go Go.Shelf Go.RowKit Go.Lib Tree Ptr
variable{o:Bq}{k:Int}{frm path:List BY}{p:Prop}{x:Tr}{sv:Vl}{w w':Wl}
def Db(k:Int)(p f:BY)(sv:Vl):List Vl:=[nI nX k,nG p,nG f,sv,nS nN 0 0,nS nN 0 0,.nilIface]
theorem IK(k:Int)(p f:BY)(a:Option Addr)(n c:Nat):∀u∈Db k p f (nS a n c),u.oneCell'=true:=by
 intro u b;simp only[Db,Qh,List.not_mem_nil,or_false]at b;rcases b with rfl|rfl|rfl|rfl|rfl|rfl|rfl<;>rfl
theorem Ce:(prog.info? 108).map (·.size)=nM 7:=Yb
def I8(o:Bq)(path frm:List BY)(x:Tr)(sv:Vl)(w:Wl)(e:Ending)(w':Wl):Prop:=
 ∃slp d f c F a,e= nR (nA #[nI nX o.kind,nG o.path,nG o.frm,sv,slp,d,f])/\UH w' o path frm x slp d f c F a/\BP w c/\(∀b,F b->w.heap.size<=b)/\(∀b,a b->w.heap.size<=b)/\(∀b,b∈c->¬F b/\¬a b)/\Chg w w' []/\(d.oneCell'=true/\f.oneCell'=true)
theorem LL{i:Wl}{d:Vl}{ts:List BY}{s:BY}(h:AK i d 9 (Ad ts))(g:AD s=nM ts)(l:s.size<=16777216)(f:Chg i w' []):JC w' (fun b=>d.ownBlock=nM b) d ts:=
 ⟨(h.kept f).rowAt (fun _ e=>e),fun b k=>Q6 (h.lt k) f.size,PK g Zj,fun t m=>Q7 (Lf g t m) l,fun a n c e=>by
  obtain⟨o,p,j,_⟩:=h.form;rw[j]at e h;have v:=h.capLe.2;injection e with q r u
  omega⟩
structure T7(o:Bq):Prop where
 path:o.path.size<=16777216
 frm:o.frm.size<=16777216
 steps:∀s∈o.steps,Di s
 len:o.steps.length<=4294967296
def Co(o:Bq)(sv:Vl)(w:Wl)(e:Ending)(w':Wl):Prop:=
 if Bn o≠0 then AZ (Bn o) [] w e w' else∃path frm x,I8 o path frm x sv w e w'/\(AN o.kind=true->AS o.steps=nM x)
theorem Iu:CP k=true↔¬(k<1\/6<k):=by
 unfold CP;rw[decide_eq_true_iff];omega
theorem Co.no{n:Nat}(h:Bn o=n)(a:n≠0):Co o sv w=AZ n [] w:=by
 funext e w';unfold Co;rw[h,Qr a]
theorem Co.yes{e:Ending}(h:Bn o=0)(a:I8 o path frm x sv w e w')(b:AN o.kind=true->AS o.steps=nM x):Co o sv w e w':=by
 unfold Co;rw[h,Qs Zh];exact⟨path,frm,x,a,b⟩
theorem SN(a:CP o.kind=false):Bn o=170:=by
 have:¬CP o.kind=true:=by simp[a]
 rw[Iu,Classical.not_not]at this;unfold Bn;rw[Qr this]
theorem LT(a:CP o.kind=true)(b:AD o.path=nN\/(AO o.kind=true/\AD o.frm=nN)):Bn o=171:=by
 unfold Bn;rw[Qs (Iu.1 a),Qr b]
theorem GH(a:CP o.kind=true)(b:¬(AD o.path=nN\/(AO o.kind=true/\AD o.frm=nN))):Bn o=if AN o.kind=true/\(AS o.steps).isNone=true then 174 else 0:=by
 unfold Bn;rw[Qs (Iu.1 a),Qs b]
theorem Nd(h:AN k=true):AO k=false:=by
 unfold AN at h;unfold AO;simp only[Bool.or_eq_true,decide_eq_true_eq]at h;rcases h with(h|h)|h<;>subst h<;>rfl
theorem AK.cut{b:Vl}{e:Ti}{vs:List Vl}(h:AK w b e vs):∃a m c,b= nS a m c:=by
 obtain⟨a,c,e,_⟩:=h.form;exact⟨_,_,_,e⟩
theorem lP(h:p:=by simp;omega):p:=h
theorem fW(h:p:=by simp[Vl.oneCell']):p:=h
theorem Xu(o:Bq)(sv:Vl)(ys:List Vl)(w:Wl)(hL:Br w)(Z:T7 o)(hR:As w sv 6 o.steps.length ys)(hS:Az w o.steps ys):
  Cl prog 41 #[nA (BJ o sv).toArray] w (Co o sv w):=by
 obtain⟨a,c,rfl,_⟩:=hR.form;have W:=hZ Z;have HL:=hZ hL;have HU:=UD (∀l,Cl prog 79 #[nI nX o.kind] l fun e w'=>e= nR (nT #[.bool (AO o.kind),.bool (AN o.kind),.bool (CP o.kind)])/\Chg l w' []) fun l=>Jm o.kind l;have HP:=UD (∀l,Chg w l []->Cl prog 81 #[nG o.path] l (AU o.path l)) fun l z=>D8 o.path l (hL.kept z) Z.path;have af:=UD (∀l,Chg w l []->Cl prog 81 #[nG o.frm] l (AU o.frm l)) fun l z=>D8 o.frm l (hL.kept z) Z.frm;have HB:=UD (∀l,Chg w l []->Cl prog 16 #[nS a o.steps.length c] l (BO o.steps l)) fun l z=>Fk o.steps _ ys l (hR.kept z) (hS.kept z) Z.steps Z.len;obtain⟨k,ax⟩:=Ue o.kind;obtain⟨p,az⟩:=Ue o.path;obtain⟨f,av⟩:=Ue o.frm;obtain⟨n,ay⟩:=Ue o.steps.length;have aE:=hZ ax;have aq:=hZ az;have an:=hZ av;have aF:=hZ ay;show Cl _ _ #[nA #[nI nX o.kind,nG o.path,nG o.frm,nS a o.steps.length c]] _ _
 obtain⟨kn,aJ⟩:=Ue (CP o.kind);obtain⟨uf,aL⟩:=Ue (AO o.kind);obtain⟨uv,ai⟩:=Ue (AN o.kind);have P:=hZ aJ.symm;have Q:=hZ aL.symm;have I:=hZ ai.symm;obtain⟨bb,aK⟩:=Ue (Vl.slice a o.steps.length c);have aH:=hZ aK;have e0:Co o (Vl.slice a o.steps.length c) w=Co o bb w:=by rw[aK]
 rw[e0,<-ax,<-az,<-av,<-ay];rw[<-aJ,<-aL,<-ai,<-ax]at HU;rw[<-az]at HP;rw[<-av]at af;rw[<-ay]at HB;have BN:=UD (Ac (((w.alloc (nC #[nI nX k,nG p,nG f,nS a n c] 42)).alloc (nC (Db 0 ⟨#[]⟩ ⟨#[]⟩ (nS nN 0 0)).toArray 108)).alloc (nC (Db 0 ⟨#[]⟩ ⟨#[]⟩ (nS nN 0 0)).toArray 108)) (w.heap.size+1+1) (Db 0 ⟨#[]⟩ ⟨#[]⟩ (nS nN 0 0)) 108) (by have:=Ac.new ((w.alloc (nC #[nI nX k,nG p,nG f,nS a n c] 42)).alloc (nC (Db 0 ⟨#[]⟩ ⟨#[]⟩ (nS nN 0 0)).toArray 108)) (Db 0 ⟨#[]⟩ ⟨#[]⟩ (nS nN 0 0)) 108;simpa using this);have a3:=UD (Ac (((w.alloc (nC #[nI nX k,nG p,nG f,nS a n c] 42)).alloc (nC (Db 0 ⟨#[]⟩ ⟨#[]⟩ (nS nN 0 0)).toArray 108)).alloc (nC (Db 0 ⟨#[]⟩ ⟨#[]⟩ (nS nN 0 0)).toArray 108)) (w.heap.size+1) (Db 0 ⟨#[]⟩ ⟨#[]⟩ (nS nN 0 0)) 108) ((CH w _ _ _).alloc _);have a5:=UD (Ac (((w.alloc (nC #[nI nX k,nG p,nG f,nS a n c] 42)).alloc (nC (Db 0 ⟨#[]⟩ ⟨#[]⟩ (nS nN 0 0)).toArray 108)).alloc (nC (Db 0 ⟨#[]⟩ ⟨#[]⟩ (nS nN 0 0)).toArray 108)) w.heap.size (BJ ⟨k,p,f,[]⟩ (nS a n c)) 42) (((Ac.new w (BJ ⟨k,p,f,[]⟩ (nS a n c)) 42).alloc _).alloc _);clear ax az av ay aJ aL ai aK e0 hL Z hR hS;go_enter func41,ntmps41
 go_upto_region 3 with(first
  |(refine Ae rfl _ _ _ rfl (w.heap.size+1+1) (Db k p f (nS a n c)) ZN ZN 108 (Db 0 ⟨#[]⟩ ⟨#[]⟩ (nS nN 0 0)) (by exact BN.o) Ce rfl (IK _ _ _ _ _ _) ?_;intro w0 aY aS aw;have a6:=hZ aS;have bc:=hZ aY;have H0:=UD (Chg w w0 []) (Chg.step (b:=_) gv aw (fun i hi hl=>by simp at hi;omega));have aN:=UD (Ac w0 w.heap.size (BJ ⟨k,p,f,[]⟩ (nS a n c)) 42) (Ac.kept (w:=_) (by exact a5.o) aw lP);have aZ:=UD (Ac w0 (w.heap.size+1) (Db 0 ⟨#[]⟩ ⟨#[]⟩ (nS nN 0 0)) 108) (Ac.kept (w:=_) (by exact a3.o) aw Zh);have x0:=aN.o.cell 0;unfold BJ at x0;simp only[Qa,Qb]at x0;clear aY aS aw)
  |(go_at_call 79;refine(HU.o _).mono ?_;rintro e w1 ⟨rfl,R⟩;have V:=UD (Chg w w1 []) (H0.o.trans R);have aO:=hZ (aN.o.kept R);have aB:=hZ (a6.o.kept R);have a0:=hZ (aZ.o.kept R);have x1:=aO.o.cell 1;unfold BJ at x1;simp only[Qa,Qb]at x1;clear R))
 cases kn with
 |false=>
  go_wp2_with(go_at_call_of 80 (Vl.bool false);refine(Bu _ _).mono ?_;rintro e S ⟨C,h⟩;unfold By at C;subst C;have O:=UD (Chg w S []) (Chg.trans (b:=_) (by exact V.o) h);clear h);rw[Co.no (n:=170) (SN P.o) ZM];exact⟨rfl,rfl,O.o⟩
 |true=>
  have J:∀q,AD o.path=q->AU p=fun l=>match q with|none=>IU l|some ts=>FA ts l:=fun q hq=>by funext l e w';rw[aq.o];unfold AU;rw[hq];cases q<;>rfl
  cases hp:AD o.path with
  |none=>
   rw[J _ hp]at HP;clear J;have L:=hZ hp;clear hp
   go_wp2_with(first
  |(go_at_call_of 80 (Vl.bool true);refine(Bv _ _).mono ?_;rintro e w2 ⟨rfl,rfl⟩)
  |(go_at_call_of 81 (Vl.string p);refine(HP.o _ V.o).mono ?_;rintro e M ⟨⟨te,xe,rfl⟩,B⟩;have K:=hZ (aB.o.kept B);have y4:=K.o.cell 4;have z4:∀j,M.frozen? ⟨w.heap.size+1+1,j,nN⟩=false:=fun j=>K.o.frozen j;unfold Db at y4;simp only[Qa,Qb]at y4;have H3:=UD (Chg w M []) (V.o.trans B);clear B)
  |(go_at_call_of 80 (Vl.bool false);refine(Bu _ _).mono ?_;rintro e S ⟨C,h⟩;unfold By at C;subst C;have O:=UD (Chg w S []) (Chg.trans (b:=_) (by exact H3.o.setCell _ _ lP) h);clear h))
   rw[Co.no (n:=171) (LT P.o (.inl L.o)) ZM];exact⟨rfl,rfl,O.o⟩
  |some ts=>
   rw[J _ hp]at HP;clear J;have L:=hZ hp;clear hp
   go_upto_region 7 with(first
  |(go_at_call_of 80 (Vl.bool true);refine(Bv _ _).mono ?_;rintro e w2 ⟨rfl,rfl⟩)
  |(go_at_call_of 81 (Vl.string p);refine(HP.o _ V.o).mono ?_;rintro e M ⟨bg,rfl,t,y,B⟩;obtain⟨r,s,c1,rfl⟩:=AK.cut t;have Q1:=hZ t;have Q2:=hZ y;have K:=hZ (aB.o.kept B);have aP:=hZ (aO.o.kept B);have aM:=hZ (a0.o.kept B);have y4:=K.o.cell 4;have z4:∀j,M.frozen? ⟨w.heap.size+1+1,j,nN⟩=false:=fun j=>K.o.frozen j;unfold Db at y4;simp only[Qa,Qb]at y4;have H3:=UD (Chg w M []) (V.o.trans B);have l3:=K.o.lt;clear B t y))
   have be:=V.o.size;have ao:=UD (∀b,(Vl.slice r s c1).ownBlock=nM b->w1.heap.size<=b) fun b d=>Q2.o.ge b (by rw[d];simp);have bd:=aB.o.lt;have aT:∀w',AK w' (nS r s c1) 9 (Ad ts)->JC w' (fun b=>(Vl.slice r s c1).ownBlock=nM b) (nS r s c1) ts:=fun w' h=>LL h L.o W.o.path cR;have HT:=hZ aT;obtain⟨T,aA⟩:=Ue (M.setCell ⟨w.heap.size+1+1,4,nN⟩ (nS r s c1));have ad:=UD (Chg M T [w.heap.size+1+1]) (by rw[aA];exact(Chg.refl M _).setCell _ _ Zh);have H:=hZ (K.o.set 4 (nS r s c1));rw[<-aA]at H;have A:=UD (Chg w T []) (Chg.fresh H3.o ad.o (fun y hy=>by simp at hy;omega));have a4:=hZ (aP.o.kept ad.o lP);have aC:=hZ (aM.o.kept ad.o);have ap:=UD (AK T (nS r s c1) 9 (Ad ts)) (Q1.o.kept ad.o (fun g u m=>by have:=ao.o g u;simp at m;omega));rw[<-aA];clear aA aT ad K aP aM H3 Q1 Q2;obtain⟨_,_,_,_,x2,x3⟩:=a4.o.cells4;have y5:=H.o.cell 5;have y6:=H.o.cell 6;have z5:∀j,T.frozen? ⟨w.heap.size+1+1,j,nN⟩=false:=fun j=>H.o.frozen j;have l5:=H.o.lt;simp only[Db,Qa,Qb,List.set_cons_zero,List.set_cons_succ]at y5 y6;cases uf with
   |true=>
    have ai:uv=false:=by
     cases uv with
     |false=>rfl
     |true=>have:=Nd I.o;rw[Q.o]at this;cases this
    subst ai;have J:∀q,AD o.frm=q->AU f=fun l=>match q with|none=>IU l|some ts=>FA ts l:=fun q hq=>by funext l e w';rw[an.o];unfold AU;rw[hq];cases q<;>rfl
    cases aa:AD o.frm with
    |none=>
     rw[J _ aa]at af;clear J;have ag:=hZ aa;clear aa
     go_wp2_with(first
     |(go_at_call 81;refine(af.o _ A.o).mono ?_;rintro e F ⟨⟨te,xe,rfl⟩,v⟩;have N:=hZ (H.o.kept v);have u5:=N.o.cell 5;have z6:∀j,F.frozen? ⟨w.heap.size+1+1,j,nN⟩=false:=fun j=>N.o.frozen j;simp only[Db,Qa,Qb,List.set_cons_zero,List.set_cons_succ]at u5;have H6:=UD (Chg w F []) (A.o.trans v);clear v)
     |(go_at_call_of 80 (Vl.bool false);refine(Bu _ _).mono ?_;rintro e S ⟨C,h⟩;unfold By at C;subst C;have O:=UD (Chg w S []) (Chg.trans (b:=_) (by exact H6.o.setCell _ _ lP) h);clear h))
     rw[Co.no (LT P.o (.inr ⟨Q.o,ag.o⟩)) ZM];exact⟨rfl,rfl,O.o⟩
    |some fs=>
     rw[J _ aa]at af;clear J;have ag:=hZ aa;clear aa
     go_wp2_with(first
     |(go_at_call_of 80 (Vl.bool true);refine(Bv _ _).mono ?_;rintro e w2 ⟨rfl,rfl⟩)
     |(go_at_call 81;refine(af.o _ A.o).mono ?_;rintro e F ⟨bh,rfl,t,y,v⟩;obtain⟨X,m2,Y,rfl⟩:=AK.cut t;have P1:=hZ t;have P2:=hZ y;have ak:=hZ v;have N:=hZ (H.o.kept v);have a1:=hZ (aC.o.kept v);have u5:=N.o.cell 5;have z6:∀j,F.frozen? ⟨w.heap.size+1+1,j,nN⟩=false:=fun j=>N.o.frozen j;have l6:=N.o.lt;simp only[Db,Qa,Qb,List.set_cons_zero,List.set_cons_succ]at u5;clear v t y)
     |(refine uN (N.o.set 5 (nS X m2 Y)) ?_)
     |(refine uO (ds:=[nI nX k,nG p,nG f,nS a n c,nS r s c1,nS X m2 Y,.nilIface]) (a1.o.set_other _ _ Zh) fW ?_;intro G ae D))
     have E:=ao.o;have ba:=A.o.size;have aI:∀b,(Vl.slice X m2 Y).ownBlock=nM b->T.heap.size<=b:=fun b d=>P2.o.ge b (by rw[d];simp);have aW:Chg F (F.setCell ⟨w.heap.size+1+1,5,nN⟩ (nS X m2 Y)) [w.heap.size+1+1]:=(Chg.refl F _).setCell _ _ Zh;have ah:AK G (nS r s c1) 9 (Ad ts):=((ap.o.kept ak.o).kept aW (fun g u m=>by have:=E g u;simp at m;omega)).kept D.o (fun g u m=>by have:=E g u;simp at m;omega);have a7:AK G (nS X m2 Y) 9 (Ad fs):=(P1.o.kept aW (fun g u m=>by have:=aI g u;simp at m;omega)).kept D.o (fun g u m=>by have:=aI g u;simp at m;omega);refine bodyPost_ret (uP ae.o) rfl ?_;have hC:Chg w G []:=Chg.step (b:=_) (by exact(A.o.trans ak.o).setCell _ _ lP) D.o (fun i hi hl=>by simp at hi;omega);refine Co.yes (path:=ts) (frm:=fs) (x:= .null) (by rw[GH P.o (by rw[L.o,ag.o];simp),I.o];simp) ⟨_,_,_,[],(fun b=>(Vl.slice r s c1).ownBlock=nM b),(fun b=>(Vl.slice X m2 Y).ownBlock=nM b),by rw[aE.o,aq.o,an.o,aH.o,aF.o],⟨HT.o _ ah,(fun _=>LL a7 ag.o W.o.frm cR),(fun e=>by rw[I.o]at e;cases e),L.o,(fun _=>ag.o),W.o.frm⟩,BP.nil _,(fun b d=> ?_),(fun b d=> ?_),(fun b d=>by cases d),hC,rfl,rfl⟩ (fun e=>by rw[I.o]at e;cases e)
     .have:=E b d;omega
     .have:=aI b d;omega
   |false=>
    have aV:¬(AD o.path=nN\/(AO o.kind=true/\AD o.frm=nN)):=by rw[L.o,Q.o];simp
    have aG:=hZ aV;clear aV;cases uv with
    |false=>
     go_wp2_with(first
     |(refine uN H.o ?_)
     |(refine uO (ds:=[nI nX k,nG p,nG f,nS a n c,nS r s c1,nS nN 0 0,.nilIface]) aC.o fW ?_;intro G ae D))
     have E:=ao.o;have ah:AK G (nS r s c1) 9 (Ad ts):=ap.o.kept D.o (fun g u m=>by have:=E g u;simp at m;omega);refine bodyPost_ret (uP ae.o) rfl ?_;have hC:Chg w G []:=Chg.fresh A.o D.o (fun i hi=>by simp at hi;omega);refine Co.yes (path:=ts) (frm:=[]) (x:= .null) (by rw[GH P.o aG.o,I.o];simp) ⟨_,_,_,[],(fun b=>(Vl.slice r s c1).ownBlock=nM b),(fun _=>False),by rw[aE.o,aq.o,an.o,aH.o,aF.o],⟨HT.o _ ah,(fun e=>by rw[Q.o]at e;cases e),(fun e=>by rw[I.o]at e;cases e),L.o,(fun e=>by rw[Q.o]at e;cases e),W.o.frm⟩,BP.nil _,(fun b d=> ?_),(fun b d=>d.elim),(fun b d=>by cases d),hC,rfl,rfl⟩ (fun e=>by rw[I.o]at e;cases e);have:=E b d;omega
    |true=>
     have al:=UD (∀l,Chg w l []->Cl prog 16 #[nS a n c] l fun e w'=>(match AS o.steps with
      |some x=>∃(U:Nat->Prop) (tb:Nat),e= nR (nT #[nP (nM ⟨tb,0,nN⟩),.nilIface])/\CG w' U tb x/\∀b,U b->b<w'.heap.size
      |none=>∃(ti:Ti) (xe:Vl),e= nR (nT #[nP nN,nF ti xe]))/\Chg l w' []) fun l z=>(HB.o l z).mono fun e w' h=>by
      unfold BO at h;refine⟨?_,h.2⟩;have h:=h.1;unfold AS;split
      .rename_i x z;rw[z]at h;obtain⟨U,tb,R,h2,B,_⟩:=h;exact⟨U,tb,R,h2,B⟩
      .rename_i z;rw[z]at h;exact h
     clear HB;cases d:AS o.steps with
     |none=>
      rw[d]at al;have am:=hZ d;clear d
      go_wp2_with(first
      |(go_at_call 16;refine(al.o _ A.o).mono ?_;rintro e F ⟨⟨te,xe,rfl⟩,v⟩;have H6:=UD (Chg w F []) (A.o.trans v);clear v)
      |(go_at_call_of 80 (Vl.bool false);refine(Bu _ _).mono ?_;rintro e S ⟨C,h⟩;unfold By at C;subst C;have O:=UD (Chg w S []) (H6.o.trans h);clear h))
      rw[Co.no (n:=174) (by rw[GH P.o aG.o,I.o,am.o];simp) ZM];exact⟨rfl,rfl,O.o⟩
     |some x=>
      rw[d]at al;have am:=hZ d;have aU:=FD W.o.steps d;have aD:=hZ aU;clear d aU
      go_wp2_with(first
      |(go_at_call_of 80 (Vl.bool true);refine(Bv _ _).mono ?_;rintro e w2 ⟨rfl,rfl⟩)
      |(go_at_call 16;refine(al.o _ A.o).mono ?_;rintro e F ⟨⟨U,tb,rfl,t,y⟩,v⟩;have T1:=hZ t;have T2:=hZ y;have ak:=hZ v;clear v t y)
      |(go_at_call 37;refine(M9 x U tb _ T1.o T2.o (Ar aD.o.fits).1).mono ?_;rintro e w9 ⟨vv,GG,rfl,t,h9,y⟩;have V1:=hZ t;have V2:=hZ y;have aR:=hZ (ak.o.trans h9);clear h9 t y)
      |(go_at_call 36;refine(ab _ x GG vv _ (Q8 _) (Ar aD.o.fits).1 V1.o (fun b d=>(V2.o b d).2)).mono ?_;rintro e w8 ⟨vx,bx,rfl,t,y,h8⟩;have ar:=aR.o.trans h8;have aQ:=hZ ar;have N2:=hZ y;obtain⟨tx,xx,rfl⟩:=t.iface;have N1:=hZ t;have aj:=hZ (H.o.kept ar);have a2:=hZ (aC.o.kept ar);have u6:=aj.o.cell 6;have z8:∀j,w8.frozen? ⟨w.heap.size+1+1,j,nN⟩=false:=fun j=>aj.o.frozen j;have l8:=aj.o.lt;simp only[Db,Qa,Qb,List.set_cons_zero,List.set_cons_succ]at u6;clear h8 ar t y)
      |(refine uN (aj.o.set 6 (nF tx xx)) ?_)
      |(refine uO (ds:=[nI nX k,nG p,nG f,nS a n c,nS r s c1,nS nN 0 0,nF tx xx]) (a2.o.set_other _ _ Zh) fW ?_;intro G ae D))
      have E:=ao.o;have ba:=A.o.size;have bf:=aR.o.size;have a9:∀b,(Vl.slice r s c1).ownBlock=nM b->b<T.heap.size:=fun b d=>ap.o.lt d;have au:∀b,b∈bx->T.heap.size<=b:=fun b d=>by have:=N2.o.ge b d;omega
      have aX:Chg w8 (w8.setCell ⟨w.heap.size+1+1,6,nN⟩ (nF tx xx)) [w.heap.size+1+1]:=(Chg.refl w8 _).setCell _ _ Zh;have ah:AK G (nS r s c1) 9 (Ad ts):=((ap.o.kept aQ.o).kept aX (fun g u m=>by have:=E g u;simp at m;omega)).kept D.o (fun g u m=>by have:=E g u;simp at m;omega);have a8:AP G x (nF tx xx) bx:=(N1.o.chg aX (fun b d m=>by have:=au b m;simp at d;omega)).chg D.o (fun b d m=>by have:=au b m;simp at d;omega);refine bodyPost_ret (uP ae.o) rfl ?_;have hC:Chg w G []:=Chg.step (b:=_) (by exact(A.o.trans aQ.o).setCell _ _ lP) D.o (fun i hi hl=>by simp at hi;omega);refine Co.yes (path:=ts) (frm:=[]) (x:=x) (by rw[GH P.o aG.o,I.o,am.o];simp) ⟨_,_,_,bx,(fun b=>(Vl.slice r s c1).ownBlock=nM b),(fun _=>False),by rw[aE.o,aq.o,an.o,aH.o,aF.o],⟨HT.o _ ah,(fun e=>by rw[Q.o]at e;cases e),(fun _=>⟨a8,aD.o⟩),L.o,(fun e=>by rw[Q.o]at e;cases e),W.o.frm⟩,⟨N2.o.nodup,fun b d=>by have:=au b d;omega⟩,(fun b d=>by have:=E b d;omega),(fun b d=>d.elim),(fun b d=>⟨fun h=>by have:=au b d;have:=a9 b h;omega,fun h=>h⟩),hC,rfl,rfl⟩ (fun _=>am.o)
theorem VL{t:Tr}(h:Bn o=0)(j:AD o.path=nM path)(g:AO o.kind=true->AD o.frm=nM frm)(f:AN o.kind=true->AS o.steps=nM x):
  Da t o path frm x=Gz t o:=by
 unfold Gz;rw[h,Qs Zh,j,Option.getD_some];unfold Da;by_cases a:o.kind=1
 .rw[Qr a,Qr a,f (by rw[a];rfl)];rfl
 rw[Qs a,Qs a];by_cases e:o.kind=2
 .rw[Qr e,Qr e]
 rw[Qs e,Qs e];by_cases b:o.kind=3
 .rw[Qr b,Qr b,f (by rw[b];rfl)];rfl
 rw[Qs b,Qs b];by_cases c:o.kind=4
 .rw[Qr c,Qr c,g (by rw[c];rfl)];rfl
 rw[Qs c,Qs c];by_cases d:o.kind=5
 .rw[Qr d,Qr d,g (by rw[d];rfl)];rfl
 rw[Qs d,Qs d]
 have i:o.kind=6:=by
  have:=(EK h).1;omega
 rw[f (by rw[i];rfl)];rfl
end
section
open Go Go.RowKit Tree Ptr
variable{ts:List BY}{t:Tr}
structure fN(r:CW):Prop where
 path:r.path.size<=16777216
 frm:r.frm.size<=16777216
 steps:r.steps=[]\/∃u,Bt u/\r.steps=Ai u
theorem fN.ops{r:CW}(h:fN r):T7 r.toI:=by
 rcases h.steps with e|⟨u,b,e⟩
 .exact⟨h.path,h.frm,(fun s a=>by unfold CW.toI at a;rw[e]at a;cases a),by show(r.steps.map Aw.toI).length<=_;rw[e];decide⟩
 .refine⟨h.path,h.frm,fun s a=> ?_, ?_⟩
  .unfold CW.toI at a;rw[e]at a;exact KI b s a
  .show(r.steps.map Aw.toI).length<=_
   rw[e];have c:=Ju u;have d:=(Ar b.fits).1;unfold MW at c;omega
def fH(ts:List BY):Prop:=(A6 ts).size<=1048576
theorem fO{s:BY}(h:AD s=nM ts)(a:s.size<=1048576):fH ts:=by unfold fH;rw[JZ h];exact a
theorem fC(a b:List BY):(A6 (a++b)).size=(A6 a).size+(A6 b).size:=by
 have h:=congrArg List.length (YL a b);rw[Qk]at h;exact h
theorem fF(k:Nat)(h:k<100000):(A6 [⟨(Go.Lib.decDigits k).toArray⟩]).size<=11:=by
 have b:=(IX 5 k h).resolve_right Zj
 have a:∀l:List UInt8,(esc l).length<=2*l.length:=by
  intro l;induction l with
  |nil=>simp[esc]
  |cons c l e=>
   rw[esc,Qk,Qj];split
   .simp;omega
   .split
    .simp;omega
    .simp;omega
 have d:=a (Go.Lib.decDigits k);show((Bl [Go.Lib.decDigits k]).toArray).size<=11
 rw[List.size_toArray];simp only[Bl,List.append_nil,Qj];omega
theorem fB{u:Tr}{k:Nat}{c:List BY}(h:Bt t)(a:Ah t c=nM u)(b:fH ts):fN ⟨k,A6 ts,Dz,Ai u⟩:=
 ⟨Q7 b ZM,by show Dz.size<=_;rw[Z4];omega,.inr ⟨u,h.lead a,rfl⟩⟩
theorem fA(h:Bt t)(g:fH ts):fN (Dd t ts):=by
 have a:Dz.size<=16777216:=by rw[Z4];omega
 unfold Dd;split
 .exact⟨a,a,.inr ⟨t,h,rfl⟩⟩
 .rename_i f;have b:(A6 (ts.dropLast++[AH ts])).size<=16777216:=by rw[CL ts f];exact Q7 g ZM
  cases m:Ah t ts.dropLast with
  |none=>exact⟨b,a,.inl rfl⟩
  |some p=>
   rw[Option.getD_some];have c:=h.lead m;cases p with
   |obj ks l=>
    unfold GF;simp only;split
    .rename_i k;have q:=Dk (Cp.1 k);have o:ks.length=l.length:=c.good.2.1
     have e:l.getD (A5 ks (AH ts)) .null∈l:=by
      rw[List.getD_eq_getElem?_getD,Q9 Zj,Option.getD_some];exact List.getElem_mem _
     exact⟨b,a,.inr ⟨_,⟨c.good.items _ e,C8 c.fits e⟩,rfl⟩⟩
    .exact⟨b,a,.inl rfl⟩
   |list l=>
    unfold GF;simp only[Eo];by_cases d:AH ts=IN
    .rw[Qr d];refine⟨?_,a,.inl rfl⟩;have i:=c.many;have n:=fF l.length (by simp only[Ab]at i;omega);have j:=fC ts.dropLast [AH ts];rw[CL ts f]at j;unfold fH at g;show(A6 (ts.dropLast++[_])).size<=_
     rw[fC];omega
    .rw[Qs d];exact⟨b,a,.inl rfl⟩
   |_=>exact⟨b,a,.inl rfl⟩
theorem fM{B:Tr}{o:Bq}{v:List CW}(h:Bt t)(y:o.path.size<=1048576)(s:o.frm.size<=1048576)(b:Gz t o= .yes B v):∀r∈v,fN r:=by
 have g:∀{a:CW},fN a->∀r∈[a],fN r:=fun q r d=>by simp at d;subst d;exact q
 unfold Gz at b;split at b
 .cases b
 .rename_i n;obtain⟨C,⟨path,j⟩,k,_⟩:=EK (by simpa using n);have i:=fO j y;rw[j,Option.getD_some]at b;unfold Da at b;split at b
  .obtain⟨_,_,rfl,_⟩:=Fd b;exact g (fA h i)
  .split at b
   .split at b
    .cases b
    .cases c:Ah t path with
     |none=>rw[c]at b;cases b
     |some u=>rw[c]at b;injection b with _ b;subst b;exact g (fB h c i)
   .split at b
    .cases c:Ah t path with
     |none=>rw[c]at b;cases b
     |some u=>
      rw[c]at b;obtain⟨_,rfl,_⟩:=Ib b;exact g (fB h c i)
    .split at b
     .rename_i z;split at b
      .cases b
      .rename_i l;obtain⟨frm,f⟩:=k (by rw[z];rfl);have w:=fO f s;rw[f,Option.getD_some]at b;cases c:Ah t frm with
       |none=>rw[c]at b;cases b
       |some u=>
        rw[c]at b;simp only at b;split at b
        .injection b with _ b;subst b;exact fun r d=>by cases d
        .rename_i m;obtain⟨_,_,rfl,_⟩:=Fd b
         have x:frm≠[]:=by
          intro e;subst e;have p:=(D7 f).1 rfl;rw[p]at l m;have:=Jb j (by simpa using l);exact m ((D7 j).1 this)
         intro r d;rcases Qh.1 d with rfl|d
         .exact fA (h.cut x c) i
         .exact g (fB h c w) r d
     .split at b
      .rename_i A;obtain⟨frm,f⟩:=k (by rw[A];rfl);rw[f,Option.getD_some]at b;cases c:Ah t frm with
       |none=>rw[c]at b;cases b
       |some u=>
        rw[c]at b;obtain⟨_,_,rfl,_⟩:=Fd b;exact g (fA h i)
      .cases c:Ah t path with
       |none=>rw[c]at b;cases b
       |some u=>
        rw[c]at b;simp only at b;split at b
        .injection b with _ b;subst b;exact fun r d=>by cases d
        .cases b
theorem fK:∀{l:List Bq} {t f:Tr} {u v:List CW} {i:Nat},Bt t->(∀o∈l,ZL o/\o.path.size<=1048576/\o.frm.size<=1048576)->(∀r∈u,fN r)->BR t u i l= .yes f v->∀r∈v,fN r
 |[],t,f,u,v,i,_,_,d,h=>by simp only[BR]at h;injection h with _ h;subst h;exact d
 |o::l,t,f,u,v,i,j,g,d,h=>by
  simp only[BR]at h;have c:=g o Zh;cases b:Gz t o with
  |no e=>rw[b]at h;cases h
  |yes s w=>
   rw[b]at h;refine fK (LX j c.1 b) (fun p k=>g p (by simp[k])) (fun r a=> ?_) h;rcases Qf.1 a with a|a
   .exact fM j c.2.1 c.2.2 b r a
   .exact d r a
end
section
open Go Go.Shelf Go.RowKit Go.Lib Tree Ptr
variable{os:List Bq}{bs cs:List Nat}{vs xs:List Vl}{W:Nat}{G G2:Nat->Prop}{t:Tr}{v v':Vl}{k w w' w0:Wl}
def CI(w:Wl)(G:Nat->Prop):List (List Bq)->List Vl->Prop
 |[],vs=>vs=[]
 |os::b,vs=>∃a xs r,vs=a::r/\As w a 4 os.length xs/\SE G a/\Eh w G os xs/\CI w G b r
theorem CI.kept{F:Nat->Prop}(d:BZ F w w')(c:∀b,F b->G b):∀{a:List (List Bq)} {vs:List Vl},CI w F a vs->CI w' G a vs
 |[],_,h=>h
 |os::a,_,⟨k,xs,r,f,g,e,i,j⟩=>⟨k,xs,r,f,g.keptF e d,e.mono c,i.kept d c,j.kept d c⟩
theorem CI.snoc{b:Vl}(d:As w b 4 os.length xs)(e:SE G b)(f:Eh w G os xs):∀{c:List (List Bq)} {vs:List Vl},CI w G c vs->CI w G (c++[os]) (vs++[b])
 |[],_,h=>by unfold CI at h;subst h;exact⟨b,xs,[],rfl,d,e,f,rfl⟩
 |a::c,_,⟨m,n,r,g,i,j,k,l⟩=>⟨m,n,r++[b],by rw[g];rfl,i,j,k,l.snoc d e f⟩
theorem CI.length:∀{b:List (List Bq)} {vs:List Vl},CI w G b vs->vs.length=b.length
 |[],_,h=>by unfold CI at h;subst h;rfl
 |a::b,_,⟨i,xs,r,c,e,f,g,d⟩=>by rw[c,Qj,d.length];rfl
theorem CI.get:∀{d:List (List Bq)} {vs:List Vl},CI w G d vs->∀(i:Nat) (os:List Bq),d[i]? =nM os->∃c xs,vs[i]? =nM c/\As w c 4 os.length xs/\SE G c/\Eh w G os xs
 |[],_,_,i,os,b=>by simp at b
 |a::d,_,⟨c,xs,r,e,f,g,h,j⟩,i,os,b=>by
  subst e;cases i with
  |zero=>simp at b;subst b;exact⟨c,xs,rfl,f,g,h⟩
  |succ i=>obtain⟨m,n,k,l⟩:=j.get i os (by simpa using b);exact⟨m,n,by simpa using k,l⟩
theorem CI.one:∀{d:List (List Bq)} {vs:List Vl},CI w G d vs->∀u∈vs,u.oneCell'=true
 |[],_,h,u,b=>by unfold CI at h;subst h;cases b
 |a::d,_,⟨l,xs,r,e,f,j,k,g⟩,u,b=>by
  subst e;obtain⟨i,c,rfl,_⟩:=f.form;rcases Qh.1 b with rfl|b
  .rfl
  .exact g.one u b
structure PO(w0 w:Wl)(W:Nat)(t:Tr)(gs:List (List Bq))(v uv:Vl)(bs:List Nat)(vs:List Vl)(G:Nat->Prop):Prop where
 wat:Hu w W t v uv bs
 nodup:(W::bs).Nodup
 ge:∀b,b∈W::bs->w0.heap.size<=b
 row:AK w uv 23 vs
 grp:CI w G gs vs
 gnew:∀b,G b->w0.heap.size<=b/\b<w.heap.size
 gap:∀b,b∈W::bs->¬G b
 uown:∀g,uv.ownBlock=nM g->w0.heap.size<=g/\g∉W::bs/\¬G g
def Dj(W:Nat)(a:Vl)(bs:List Nat):List Nat:=a.ownBlock.toList++W::bs
theorem PO.kept{i:List (List Bq)}{f:Vl}(h:PO w0 w W t i v f bs vs G)(c:Chg w w' cs)(d:∀b,b∈cs->b∉Dj W f bs/\¬G b:=by simp):PO w0 w' W t i v f bs vs G:=by
 have k:BZ G w w':=c.keepsF (fun b a=>(h.gnew b a).2) (fun b a=>(d b a).2);refine⟨h.wat.kept c (fun b a e=>(d b a).1 (Qd _ e)),h.nodup,h.ge,h.row.kept c (fun g j e=>(d g e).1 (Qe _ (by simp[j]))),h.grp.kept k (fun _ h=>h),(fun b a=> ?_),h.gap,h.uown⟩;have:=h.gnew b a;have:=c.size;omega
theorem PO.ltAll{d:List (List Bq)}{c:Vl}(h:PO w0 w W t d v c bs vs G):∀b,b∈Dj W c bs->b<w.heap.size:=by
 intro b a;rcases Qf.1 a with a|a
 .exact h.row.lt (by simpa using a)
 .rcases Qh.1 a with rfl|a
  .exact h.wat.blk.lt
  .exact AP.lt _ _ _ h.wat.at_ b a
structure Y3(w4 w:Wl)(W:Nat)(uv:Vl)(old:List Nat)(t':Tr)(os:List Bq)(sl:Vl)(xs:List Vl)(G2:Nat->Prop)(v':Vl)(bs':List Nat):Prop where
 ops:EW w4 w os sl xs G2
 wat:Hu w W t' v' uv bs'
 own:DJ w4 old (W::bs')
 apart:∀b,b∈W::bs'->¬G2 b
theorem Y3.kept{j:Vl}{f:List Nat}{i:Tr}{g:Vl}{a:List Nat}(h:Y3 k w W j f i os g xs G2 v' a)(d:Chg w w' cs)(e:∀b,b∈cs->b∉W::a/\¬G2 b:=by simp):Y3 k w' W j f i os g xs G2 v' a:=
 ⟨h.ops.kept d (fun b c=>(e b c).2) (Q8 _),h.wat.kept d (fun b c=>(e b c).1),h.own,h.apart⟩
theorem PO.next{s:Tr}{x:List (List Bq)}{m u:Vl}{q l:List Nat}{g n c:Nat}(h:PO w0 k W t x v m bs vs G)(A:∀b,b∈q->w0.heap.size<=b/\¬G b/\m.ownBlock≠nM b)(f:Y3 k w W m (W::(q++bs)) s os u xs G2 v' l)(K:∀b,b∈cs->b<k.heap.size->b∈m.ownBlock.toList++W::(q++bs))(B:Chg k w cs)(J:AK w (nS (nM ⟨g,0,nN⟩) n c) 23 (vs++[u]))(j:m.ownBlock=nM g\/k.heap.size<=g)(C:g∉W::l)(L:¬G2 g)(R:w0.heap.size<=k.heap.size)(p:Chg w w' [W])(H:Ac w' W [v',nI nX (Ag s).nodes,nI nX (Ag s).bytes,nS (nM ⟨g,0,nN⟩) n c] 70):
  PO w0 w' W s (x++[os]) v' (nS (nM ⟨g,0,nN⟩) n c) l (vs++[u]) (fun b=>G b\/G2 b):=by
 have O:∀b,b∈l->b≠W:=fun b a e=>by subst e;exact(List.nodup_cons.1 f.own.nodup).1 a
 have z:W∈W::l:=Zh;have y:¬G W:=h.gap W Zh
 have E:∀b,b∈m.ownBlock.toList++W::(q++bs)->¬G b:=fun b a=>by
  rcases Qf.1 a with a|a
  .exact(h.uown b (by simpa using a)).2.2
  .rcases Qh.1 a with rfl|a
   .exact y
   .rcases Qf.1 a with a|a
    .exact(A b a).2.1
    .exact h.gap b (Qg _ a)
 have M:BZ G k w:=B.keepsF (fun b a=>(h.gnew b a).2) (fun b a d=>E b (K b a (h.gnew b d).2) d);have P:=B.size;have N:BZ G w w':=p.keepsF (fun b a=>Q6 (h.gnew b a).2 P) (fun b a=>by simp at a;subst a;exact y);have D:BZ G2 w w':=p.keepsF (fun b a=>(f.ops.new b a).2) (fun b a=>by simp at a;subst a;exact f.apart _ z)
 have I:∀b,b∈W::l->¬G b:=fun b a d=>by
  rcases f.own.come b a with i|i
  .exact E b (Qd _ i) d
  .have:=(h.gnew b d).2;omega
 have S:=p.size;refine⟨⟨H,f.wat.at_.chg p (fun b a r=>by simp at a;exact O b r a),f.wat.fine⟩,f.own.nodup,fun b a=> ?_,J.kept p (fun F o r=> ?_), ?_,fun b a=> ?_,fun b a d=> ?_,fun F o=> ?_⟩
 .rcases f.own.come b a with i|i
  .rcases Qh.1 i with rfl|i
   .exact h.ge _ Zh
   .rcases Qf.1 i with i|i
    .exact(A b i).1
    .exact h.ge b (Qg _ i)
  .omega
 .simp[Vl.ownBlock]at o r;subst o;subst r;exact C z
 .have Q:=(h.grp.kept M (fun _ h=>h)).kept N (fun b a=>(Or.inl a:G b\/G2 b));exact Q.snoc (f.ops.row.keptF f.ops.inn D) (f.ops.inn.mono fun b a=> .inr a) (f.ops.ops.kept D fun b a=> .inr a)
 .rcases a with a|a
  .have:=h.gnew b a;omega
  .have:=f.ops.new b a;omega
 .rcases d with d|d
  .exact I b a d
  .exact f.apart b a d
 .simp[Vl.ownBlock]at o;subst o;refine⟨?_,C,fun d=> ?_⟩
  .rcases j with j|j
   .exact(h.uown _ j).1
   .omega
  .rcases d with d|d
   .rcases j with j|j
    .exact(h.uown _ j).2.2 d
    .have:=(h.gnew _ d).2;omega
   .exact L d
def gj:List Vl:=[nI nX 0,nG ⟨#[]⟩,nG ⟨#[]⟩,nS nN 0 0]

end
section
open Go Go.RowKit Tree Ptr

end
section
open Go Go.Shelf Go.RowKit Go.Lib Tree Ptr

end
end Go.Proofs.YtpdnhfkacgdocaaGreatDoor

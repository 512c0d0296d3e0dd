/- Part 25 of the proof of coreBase. -/
import Derived.Test.YtkfnkppdhcaeoaaGreatDoorM24
set_option maxRecDepth 100000
set_option maxHeartbeats 32000000
set_option linter.all false
namespace Go.Proofs.YtkfnkppdhcaeoaaGreatDoor
open Go renaming Calls->Cl,TypeId->Ti,Value->Vl,World->Wl
open Go.Value renaming agg->nA,iface->nF,int->nI,pointer->nP,slice->nS,string->nG,tuple->nT
open Go.IntKind renaming i64->nX
open Go.Ending renaming returned->nR
open Go.Obj renaming cells->nC
open Option renaming none->nN,some->nM
section
open Go Go.Shelf Go.RowKit Go.Lib Tree Ptr
theorem NS{W:Nat}{g:Vl}{b:List Nat}{t x:Tr}{ts:List BY}{w w':Wl}{e:Ending}(a:List CW)(h:Cq W g b t x ts w e w'):
  (∃n,Ga t ts x a= .no n/\e=By n/\Chg w w' b)\/(∃f,Ga t ts x a= .yes f (Dd t ts::a)/\ET W g b f (Dd t ts).toI w e w'):=by
 unfold Cq at h;unfold Ga;by_cases c:EN t ts≠0
 .rw[Qr c]at h|-
  exact .inl ⟨_,rfl,h.1,h.2⟩
 .rw[Qs c]at h|-
  unfold Kj;by_cases d:(Ag (At t ts x)).within=true
  .rw[Qr d]at h|-
   exact .inr ⟨_,rfl,h⟩
  .rw[Qs d]at h|-
   exact .inl ⟨_,rfl,h.1,h.2⟩
theorem I3{P:Program}{o:Oper}{a:Act}{Q:Exit->Act->Wl->Prop}{K:Act->Wl->Prop}{w:Wl}(r:Operand)(b:String)(m:Array Ti)(j:o.op= .call {callee:= .invoke r b,args:=#[],argTypes:=m})(v:Vl)(l:a.eval r=v)(f:FuncId)(args:Array Vl)(i:(callMethod v b #[]).run P w= .ok (.enter f args) w)(R:Ending->Wl->Prop)(d:Cl P f args w R)(c:∀e w2,R e w2->∃u,e= nR u/\K (a.put o.dst u) w2):Oper.wp P o a w K Q:=by
 unfold Oper.wp
 have g:(execOp a.eval o).run P w= .ok (.enter f args) w:=by
  simp[execOp,j,resolve,invoke,l,i]
 rw[g];refine d.mono fun e w2 h=> ?_
 obtain⟨u,rfl,k⟩:=c e w2 h;exact k
structure IL(w4:Wl)(V:Nat->Vl->Prop)(P7 P8 P9:Vl->Wl->Prop)(d:Nat->Bool)(f:Nat->Vl)(w:Wl):Prop where
 early:d 8=false->Chg w4 w []
 vals:∀j,j<7->d j=true->V j (f j)
 o7:d 7=true->d 6=true
 o8:d 8=true->∀j,j<8->d j=true
 o9:d 9=true->d 8=true
 o10:d 10=true->d 9=true
 p7:d 7=true->d 8=false->P7 (f 7) w
 p8:d 8=true->d 9=false->P8 (f 8) w
 p9:d 9=true->P9 (f 9) w
 p10:d 10=true->f 10=f 9
section
variable {w4:Wl} {V:Nat->Vl->Prop} {P7 P8 P9:Vl->Wl->Prop} {d:Nat->Bool} {f:Nat->Vl} {w w':Wl}
theorem IL.read{j:Nat}{v:Vl}(h:IL w4 V P7 P8 P9 d f w)(r:j<7)(g:d j=false)(p:V j v)(o:Chg w w' [])(q:w'=w\/j=6):IL w4 V P7 P8 P9 (BA d j) (Eb f j v) w':=by
 have n:∀k,k≠j->BA d j k=d k:=fun k a=>An d a
 have m:∀k,k≠j->Eb f j v k=f k:=fun k a=>AA f v a
 have b:d 8=false:=by cases e:d 8 with
  |false=>rfl
  |true=>rw[h.o8 e j Zj]at g;cases g
 have c:d 9=false:=by cases e:d 9 with
  |false=>rfl
  |true=>rw[h.o9 e]at b;cases b
 have i:d 10=false:=by cases e:d 10 with
  |false=>rfl
  |true=>rw[h.o10 e]at c;cases c
 have up:∀k,d k=true->BA d j k=true:=fun k a=>by unfold BA;split;rfl;exact a
 refine⟨?_, ?_, ?_, ?_, ?_, ?_, ?_, ?_, ?_, ?_⟩<;>try simp only[n 7 Zj,n 8 Zj,n 9 Zj,n 10 Zj,m 7 Zj,m 8 Zj,m 9 Zj,m 10 Zj]
 .exact fun _=>(h.early b).trans o
 .intro k a l
  by_cases e:k=j
  .subst e;rw[Bf];exact p
  .rw[m k e];rw[n k e]at l;exact h.vals k a l
 .exact fun e=>up 6 (h.o7 e)
 .rw[b];intro e;cases e
 .rw[c];intro e;cases e
 .rw[i];intro e;cases e
 .intro e _
  rcases q with rfl|rfl
  .exact h.p7 e b
  .rw[h.o7 e]at g;cases g
 .rw[b];intro e;cases e
 .rw[c];intro e;cases e
 .rw[i];intro e;cases e
theorem IL.made{v:Vl}(h:IL w4 V P7 P8 P9 d f w)(i:d 7=false)(l:d 6=true)(p:P7 v w')(o:Chg w w' []):IL w4 V P7 P8 P9 (BA d 7) (Eb f 7 v) w':=by
 have n:∀k,k≠7->BA d 7 k=d k:=fun k b=>An d b
 have m:∀k,k≠7->Eb f 7 v k=f k:=fun k b=>AA f v b
 have a:d 8=false:=by cases e:d 8 with
  |false=>rfl
  |true=>rw[h.o8 e 7 Zj]at i;cases i
 have c:d 9=false:=by cases e:d 9 with
  |false=>rfl
  |true=>rw[h.o9 e]at a;cases a
 have g:d 10=false:=by cases e:d 10 with
  |false=>rfl
  |true=>rw[h.o10 e]at c;cases c
 refine⟨?_, ?_, ?_, ?_, ?_, ?_, ?_, ?_, ?_, ?_⟩<;>try simp only[n 6 Zj,n 8 Zj,n 9 Zj,n 10 Zj,Bf,m 8 Zj,m 9 Zj,m 10 Zj]
 .exact fun _=>(h.early a).trans o
 .intro k b j
  rw[m k Zj];rw[n k Zj]at j;exact h.vals k b j
 .exact fun _=>l
 .rw[a];intro e;cases e
 .rw[c];intro e;cases e
 .rw[g];intro e;cases e
 .exact fun _ _=>p
 .rw[a];intro e;cases e
 .rw[c];intro e;cases e
 .rw[g];intro e;cases e
theorem IL.added{v:Vl}(h:IL w4 V P7 P8 P9 d f w)(g:d 8=false)(l:∀j,j<8->d j=true)(p:P8 v w'):IL w4 V P7 P8 P9 (BA d 8) (Eb f 8 v) w':=by
 have n:∀k,k≠8->BA d 8 k=d k:=fun k a=>An d a
 have m:∀k,k≠8->Eb f 8 v k=f k:=fun k a=>AA f v a
 have b:d 9=false:=by cases e:d 9 with
  |false=>rfl
  |true=>rw[h.o9 e]at g;cases g
 have c:d 10=false:=by cases e:d 10 with
  |false=>rfl
  |true=>rw[h.o10 e]at b;cases b
 refine⟨?_, ?_, ?_, ?_, ?_, ?_, ?_, ?_, ?_, ?_⟩<;>try simp only[n 6 Zj,n 7 Zj,n 9 Zj,n 10 Zj,Bf,BG,m 7 Zj,m 9 Zj,m 10 Zj]
 .intro e;cases e
 .intro k a i
  rw[m k Zj];rw[n k Zj]at i;exact h.vals k a i
 .exact h.o7
 .intro _ j o;rw[n j Zj];exact l j o
 .rw[b];intro e;cases e
 .rw[c];intro e;cases e
 .intro _ e;cases e
 .exact fun _ _=>p
 .rw[b];intro e;cases e
 .rw[c];intro e;cases e
theorem IL.built{v:Vl}(h:IL w4 V P7 P8 P9 d f w)(g:d 9=false)(b:d 8=true)(o:P9 v w'):IL w4 V P7 P8 P9 (BA d 9) (Eb f 9 v) w':=by
 have n:∀k,k≠9->BA d 9 k=d k:=fun k a=>An d a
 have m:∀k,k≠9->Eb f 9 v k=f k:=fun k a=>AA f v a
 have c:d 10=false:=by cases e:d 10 with
  |false=>rfl
  |true=>rw[h.o10 e]at g;cases g
 refine⟨?_, ?_, ?_, ?_, ?_, ?_, ?_, ?_, ?_, ?_⟩<;>try simp only[n 6 Zj,n 7 Zj,n 8 Zj,n 10 Zj,Bf,BG,m 7 Zj,m 8 Zj,m 10 Zj]
 .rw[b];intro e;cases e
 .intro k a i
  rw[m k Zj];rw[n k Zj]at i;exact h.vals k a i
 .exact h.o7
 .intro e j l;rw[n j Zj];exact h.o8 e j l
 .exact fun _=>b
 .rw[c];intro e;cases e
 .rw[b];intro _ e;cases e
 .intro _ e;cases e
 .exact fun _=>o
 .rw[c];intro e;cases e
theorem IL.end_(h:IL w4 V P7 P8 P9 d f w)(b:d 9=true):IL w4 V P7 P8 P9 (BA d 10) (Eb f 10 (f 9)) w:=by
 have n:∀k,k≠10->BA d 10 k=d k:=fun k a=>An d a
 have m:∀k,k≠10->Eb f 10 (f 9) k=f k:=fun k a=>AA f _ a
 have i:=h.o9 b;refine⟨?_, ?_, ?_, ?_, ?_, ?_, ?_, ?_, ?_, ?_⟩<;>try simp only[n 6 Zj,n 7 Zj,n 8 Zj,n 9 Zj,Bf,BG,m 7 Zj,m 8 Zj,m 9 Zj]
 .exact h.early
 .intro k a c
  rw[m k Zj];rw[n k Zj]at c;exact h.vals k a c
 .exact h.o7
 .intro e j g;rw[n j Zj];exact h.o8 e j g
 .exact h.o9
 .exact fun _=>b
 .exact h.p7
 .exact h.p8
 .exact h.p9
 .exact fun _=>trivial
end
end
section
open _root_.Go.Proofs.Tryz
open Go Go.Shelf Go.RowKit Go.Lib Tree Ptr
theorem Mg(s p:BY)(w:Wl):
  Cl prog 204 #[nG s,nG p] w fun e w'=>e= nR (.bool (Lib.hasPrefix s.data.toList p.data.toList))/\w'=w:=by
 rw[<-Lib.hasPrefix_of_take,<-Lib.size_eq,<-Lib.size_eq];go_enter func204,ntmps204
 go_wp2
 .rename_i h
  go_ret
  refine⟨?_,rfl⟩
  show Ending.returned (Vl.bool ((s.extract 0 p.size).toList==p.toList))=_
  rw[Lib.extract_toList,Lib.toList_data];simp[h]
 .rename_i h
  go_ret
  refine⟨?_,rfl⟩
  show Ending.returned (Vl.bool false)=_
  simp[h]
theorem EH(s p:BY)(w:Wl):
  Cl prog 169 #[nG s,nG p] w fun e w'=>e= nR (.bool (Lib.hasPrefix s.data.toList p.data.toList))/\w'=w:=by
 have a:=hZ (Mg s p);go_enter func169,ntmps169
 go_wp2_with(first
  |(go_at_call 204;refine(a.o _).mono ?_;rintro e b ⟨rfl,rfl⟩))
 go_ret
 exact⟨rfl,rfl⟩
theorem GR(a b:BY):Lib.hasPrefix a.data.toList (b++(⟨#[47]⟩:BY)).data.toList=EV a b:=by
 unfold EV Lib.hasPrefix;simp
def FR(t:Tr)(p f:BY)(b a:List BY):PV:=if EV p f=true then .no 175 else match Ah t a with
 |none=> .no 4
 |some u=>if p=f then .yes t []else Ga (A8 t a) b u [⟨1,A6 a,Dz,Ai u⟩]
theorem Dr.keptG{w0 f w2 c:Wl}{o:Bq}{sv:Vl}{ys:List Vl}{G:Nat->Prop}{cs:List Nat}(h:Dr f w2 o sv ys G)(d:Chg w2 c cs)(g:∀b,b∈cs->¬G b)(i:w0.heap.size<=f.heap.size):Dr w0 c o sv ys G:=by
 have e:BZ G w2 c:=d.keepsF (fun b a=>(h.new b a).2) g;exact⟨h.row.keptF h.inn e,h.inn,h.steps.kept e (fun _ h=>h),fun b a=>by have:=h.new b a;have:=d.size;omega⟩
theorem EW.two{w0 w2 h:Wl}{j k:Bq}{l m:Vl}{u w:List Vl}{p G2:Nat->Prop}{g:Nat}(d:Dr w0 w2 j l u p)(f:Dr w0 w2 k m w G2)(x:w0.heap.size<=w2.heap.size)(q:Chg w2 h [])(r:Ac h g (BJ j l++BJ k m) 42)(y:w2.heap.size<=g):EW w0 h [j,k] (nS (nM ⟨g,0,Option.none⟩) 2 2) (BJ j l++BJ k m) (fun b=>b=g\/p b\/G2 b):=by
 have A:=q.size;have s:BZ p w2 h:=q.keepsF (fun b a=>(d.new b a).2);have t:BZ G2 w2 h:=q.keepsF (fun b a=>(f.new b a).2);refine⟨⟨_,_,rfl,Q8 _,by simp[BJ],fun i v z=>⟨g,0,rfl,by rw[Nat.zero_add,r.cell i];exact z⟩⟩,(fun b o n c e=>by injection e with e;injection e with e;injection e with e;exact .inl e.symm), ?_, ?_⟩
 .exact⟨l,u,_,rfl,d.row.keptF d.inn s,d.inn.mono (fun b a=> .inr (.inl a)),d.steps.kept s (fun b a=> .inr (.inl a)),
   m,w,[],Zh,f.row.keptF f.inn t,f.inn.mono (fun b a=> .inr (.inr a)),f.steps.kept t (fun b a=> .inr (.inr a)),rfl⟩
 .rintro b (rfl|a|a)
  .exact⟨Q7 x y,r.lt⟩
  .have:=d.new b a;omega
  .have:=f.new b a;omega
theorem Yn{W:Nat}{A:Vl}{bs f d:List Nat}{z:Tr}{m n:CW}{w c w2 o:Wl}{B x y:Vl}{G H:List Vl}{p G2:Nat->Prop}{g:Nat}(v:Dr w c m.toI x G p)(t:DJ w (W::bs) f)(s:Chg w c (W::bs))(r:∀b,b∈f->¬p b)(e:Dr c w2 n.toI y H G2)(l:Hu w2 W z B A d)(u:DJ c f (W::d))(k:Chg c w2 f)(C:∀b,b∈W::d->¬G2 b)(D:Ac o g (BJ m.toI x++BJ n.toI y) 42)(F:w2.heap.size<=g)(j:Chg w2 o []):BC W A (W::bs) (.yes z [n,m]) w (nR (nS (nM ⟨g,0,nN⟩) 2 2)) o:=by
 have I:=s.size;have K:=k.size;have E:Chg w w2 (W::bs):=s.step k (fun i hi J=>by rcases t.come i hi with h|h;exact h;omega);refine⟨B,d,_,_,_,rfl,EW.two (w0:=w) (v.keptG k r (Q8 _)) ⟨e.row,e.inn,e.steps,fun b a=>by have:=e.new b a;omega⟩ Zj j D F,l.kept j,t.trans u I,E.trans (j.none _),fun b a=> ?_⟩;rintro(rfl|h|h)
 .rcases Qh.1 a with h|h
  .have:=l.blk.lt;omega
  .have:=AP.lt _ _ _ l.at_ _ h;omega
 .rcases u.come b a with q|q
  .exact r b q h
  .have:=v.new b h;omega
 .exact C b a h
structure Kf(w4:Wl)(V:Nat->Vl->Prop)(P5 P6:Vl->Wl->Prop)(d:Nat->Bool)(f:Nat->Vl)(w:Wl):Prop where
 early:d 5=false->w=w4
 vals:∀j,j<5->d j=true->V j (f j)
 p5:d 5=true->d 6=false->P5 (f 5) w
 p6:d 6=true->P6 (f 6) w
 p7:d 7=true->f 7=f 6
section
variable {w4:Wl} {V:Nat->Vl->Prop} {P5 P6:Vl->Wl->Prop} {d:Nat->Bool} {f:Nat->Vl} {w w':Wl}
theorem Kf.read{j:Nat}{v:Vl}(h:Kf w4 V P5 P6 d f w)(g:j<5)(c:V j v):Kf w4 V P5 P6 (BA d j) (Eb f j v) w:=by
 have n:∀k,k≠j->BA d j k=d k:=fun k a=>An d a
 have m:∀k,k≠j->Eb f j v k=f k:=fun k a=>AA f v a
 refine⟨?_, ?_, ?_, ?_, ?_⟩<;>try simp only[n 5 Zj,n 6 Zj,n 7 Zj,m 5 Zj,m 6 Zj,m 7 Zj]
 .exact h.early
 .intro k a b
  by_cases e:k=j
  .subst e;rw[Bf];exact c
  .rw[m k e];rw[n k e]at b;exact h.vals k a b
 .exact h.p5
 .exact h.p6
 .exact h.p7
theorem Kf.added{v:Vl}(h:Kf w4 V P5 P6 d f w)(c:d 6=false)(g:d 7=false)(i:P5 v w'):Kf w4 V P5 P6 (BA d 5) (Eb f 5 v) w':=by
 have n:∀k,k≠5->BA d 5 k=d k:=fun k a=>An d a
 have m:∀k,k≠5->Eb f 5 v k=f k:=fun k a=>AA f v a
 refine⟨?_, ?_, ?_, ?_, ?_⟩<;>try simp only[n 6 Zj,n 7 Zj,Bf,BG,m 6 Zj,m 7 Zj]
 .intro e;cases e
 .intro k a b
  rw[m k Zj];rw[n k Zj]at b;exact h.vals k a b
 .exact fun _ _=>i
 .rw[c];intro e;cases e
 .rw[g];intro e;cases e
theorem Kf.built{v:Vl}(h:Kf w4 V P5 P6 d f w)(c:d 5=true)(g:d 7=false)(i:P6 v w'):Kf w4 V P5 P6 (BA d 6) (Eb f 6 v) w':=by
 have n:∀k,k≠6->BA d 6 k=d k:=fun k a=>An d a
 have m:∀k,k≠6->Eb f 6 v k=f k:=fun k a=>AA f v a
 refine⟨?_, ?_, ?_, ?_, ?_⟩<;>try simp only[n 5 Zj,n 7 Zj,Bf,BG,m 5 Zj,m 7 Zj]
 .rw[c];intro e;cases e
 .intro k a b
  rw[m k Zj];rw[n k Zj]at b;exact h.vals k a b
 .intro _ e;cases e
 .exact fun _=>i
 .rw[g];intro e;cases e
theorem Kf.end_(h:Kf w4 V P5 P6 d f w):Kf w4 V P5 P6 (BA d 7) (Eb f 7 (f 6)) w:=by
 have n:∀k,k≠7->BA d 7 k=d k:=fun k a=>An d a
 have m:∀k,k≠7->Eb f 7 (f 6) k=f k:=fun k a=>AA f _ a
 refine⟨?_, ?_, ?_, ?_, ?_⟩<;>try simp only[n 5 Zj,n 6 Zj,Bf,BG,m 5 Zj,m 6 Zj]
 .exact h.early
 .intro k a b
  rw[m k Zj];rw[n k Zj]at b;exact h.vals k a b
 .exact h.p5
 .exact h.p6
 .exact fun _=>trivial
end
theorem Rw(W:Nat)(o sv q:Vl)(l:List Nat)(m n:Vl)(t:Tr)(ts c:List BY)(k:Int)(p f:BY)(w:Wl)(r:f.size<=16777216)(hi:EV p f=true):
  Cl prog 131 #[nP (nM ⟨W,0,nN⟩),nA #[nI nX k,nG p,nG f,sv,m,n,q]] w (BC W o l (FR t p f ts c) w):=by
 have g:FR t p f ts c= .no 175:=by unfold FR;rw[Qr hi]
 rw[g,Hz];have b:=GR p f;rw[hi]at b
 have j:=UD (∀a,Cl prog 169 #[nG p,nG (f++⟨#[47]⟩)] a fun e w'=>e= nR (.bool true)/\w'=a) fun a=>by
  have:=EH p (f++⟨#[47]⟩) a;rw[b]at this;exact this
 clear hi g b;go_enter func131,ntmps131
 go_wp2_with(first
  |(go_at_call 169;refine(j.o _).mono ?_;rintro e s ⟨rfl,rfl⟩)
  |(go_at_call 53;refine(Bu _ _).mono ?_;rintro e w2 ⟨d,h⟩;unfold By at d;subst d;have i:=UD (Chg w w2 []) (ct cR h);clear h))
 exact⟨rfl,rfl,i.o.none _⟩
theorem Rx(W:Nat)(t:Tr)(v s B:Vl)(bs:List Nat)(u:Nat->Prop)(i:Option Addr)(j:Nat)(ts a:List BY)(k:Int)(p f:BY)(sv A:Vl)(z:List Nat)(w:Wl)(l:Br w)(m:Hu w W t v s bs)(o:JC w u (nS i a.length j) a)(D:f.size<=16777216)(hi:EV p f=false)(c:Ah t a=nN):
  Cl prog 131 #[nP (nM ⟨W,0,nN⟩),nA #[nI nX k,nG p,nG f,sv,A,nS i a.length j,B]] w (BC W s z (FR t p f ts a) w):=by
 have r:FR t p f ts a= .no 4:=by unfold FR;rw[Qs (by simp[hi]),c]
 rw[r,Hz];have d:=GR p f;rw[hi]at d
 have y:=UD (∀b,Cl prog 169 #[nG p,nG (f++⟨#[47]⟩)] b fun e w'=>e= nR (.bool false)/\w'=b) fun b=>by
  have:=EH p (f++⟨#[47]⟩) b;rw[d]at this;exact this
 have g:=hZ (Im l m o c);obtain⟨C,q⟩:=Ue a.length
 rw[<-q]at g|-;clear hi r d l m o c q;go_enter func131,ntmps131
 go_wp2_with(first
  |(go_at_call 169;refine(y.o _).mono ?_;rintro e E ⟨rfl,rfl⟩)
  |(go_at_call_of 53 (Vl.bool true);refine(Bv _ _).mono ?_;rintro e F ⟨rfl,rfl⟩)
  |(go_at_call 170;refine(g.o _ (by exact cg cR)).mono ?_;rintro e w2 ⟨n,h⟩;unfold By at n;subst n;have x:=UD (Chg w w2 []) (ct cR h);clear h))
 exact⟨rfl,rfl,x.o.none _⟩
theorem NH(W:Nat)(t u:Tr)(v A m:Vl)(bs:List Nat)(B:Nat->Prop)(b:Option Addr)(c:Nat)(ts a:List BY)(k:Int)(f:BY)(sv l:Vl)(w:Wl)(q:Br w)(d:Hu w W t v A bs)(y:(W::bs).Nodup)(r:JC w B (nS b a.length c) a)(J:f.size<=16777216)(hi:EV f f=false)(i:Ah t a=nM u):
  Cl prog 131 #[nP (nM ⟨W,0,nN⟩),nA #[nI nX k,nG f,nG f,sv,l,nS b a.length c,m]] w (BC W A (W::bs) (FR t f f ts a) w):=by
 have z:FR t f f ts a= .yes t []:=by unfold FR;rw[Qs (by simp[hi]),i];dsimp only;rw[Qr rfl]
 rw[z];have j:=GR f f;rw[hi]at j
 have E:=UD (∀g,Cl prog 169 #[nG f,nG (f++⟨#[47]⟩)] g fun e w'=>e= nR (.bool false)/\w'=g) fun g=>by
  have:=EH f (f++⟨#[47]⟩) g;rw[j]at this;exact this
 obtain⟨K,I,rest,x⟩:=EU d.at_ _ a _ rfl i;have o:=hZ (Dl q d r x);have F:=hZ d;have D:=hZ y;obtain⟨p,s⟩:=Ue a.length
 rw[<-s]at o|-;clear hi z j q d r i s x y;go_enter func131,ntmps131
 go_wp2_with(first
  |(go_at_call 169;refine(E.o _).mono ?_;rintro e L ⟨rfl,rfl⟩)
  |(go_at_call_of 53 (Vl.bool true);refine(Bv _ _).mono ?_;rintro e M ⟨rfl,rfl⟩)
  |(go_at_call 170;refine(o.o _ (by exact cg cR)).mono ?_;rintro e w2 ⟨rfl,h⟩;have C:=UD (Chg w w2 []) (ct cR h);have n:=UD (Ac w2 w.heap.size [nI nX k,nG f,nG f,sv,l,nS b p c,m] 111) ((Ac.new w [nI nX k,nG f,nG f,sv,l,nS b p c,m] 111).kept h);have G:=n.o.cell 1;have H:=n.o.cell 2;simp only[Qa,Qb]at G H;clear h))
 refine bodyPost_ret (results_tmp rfl _ _ _) rfl ?_;exact QE F.o (DJ.refl D.o) (by exact cg C.o)
def KV(t:Tr)(b a:List BY):PV:=match Ah t a with
 |none=> .no 4
 |some u=>Ga t b u []
def FL(W B:Nat)(c:Vl)(a b:Vl)(j:Nat)(v:Vl):Prop:=match j with
 |0=>v= nP (nM ⟨W,0,nN⟩)
 |1=>v= nP (nM ⟨B,4,nN⟩)
 |2=>v=a
 |3=>v= nP (nM ⟨W,0,nN⟩)
 |4=>v= nP (nM ⟨B,5,nN⟩)
 |5=>v=b
 |6=>v=c
 |_=>True
def Mu(W B:Nat)(a b:Vl)(j:Nat)(v:Vl):Prop:=match j with
 |6=>False
 |7=>False
 |8=>False
 |9=>False
 |_=>FL W B .nilIface a b j v
def ao(W:Nat)(h:Vl)(bs:List Nat)(g:PV)(c:Wl)(v:Vl)(w:Wl):Prop:=
 ∃f r i a d e ys G,g= .yes f [r]/\v= nA (BJ r.toI (nS d r.toI.steps.length e)).toArray/\Dr c w r.toI (nS d r.toI.steps.length e) ys G/\Hu w W f i h a/\DJ c (W::bs) (W::a)/\Chg c w (W::bs)/\∀b,b∈W::a->¬G b
theorem NF(W:Nat)(t:Tr)(v J A:Vl)(bs:List Nat)(F L:Nat->Prop)(o j:Option Addr)(c l:Nat)(ts i:List BY)(k:Int)(p f:BY)(sv:Vl)(w:Wl)(h:UI W t v J bs F (nS o ts.length c) ts w)(H:JC w L (nS j i.length l) i)(y:Ah t i=nN):
  Cl prog 132 #[nP (nM ⟨W,0,nN⟩),nA #[nI nX k,nG p,nG f,sv,nS o ts.length c,nS j i.length l,A]] w (BC W J (W::bs) (KV t ts i) w):=by
 have E:=hZ (Im h.laid h.wat H y);have M:=UD (KV t ts i= .no 4) (by unfold KV;rw[y]);obtain⟨z,I⟩:=Ue ts.length
 obtain⟨q,x⟩:=Ue i.length
 rw[<-x]at E;rw[<-I,<-x];clear h H I x y;go_enter func132,ntmps132
 go_wp2_with fail
 obtain⟨B,r⟩:=Ue (World.drew (w.alloc (nC #[nI nX k,nG p,nG f,sv,nS o z c,nS j q l,A] 111)))
 have N:=hZ r;have C:Hid (Chg w B []):=by rw[r];exact hZ (((Chg.refl w []).alloc _).drew)
 have D:Hid (Ac B w.heap.size [nI nX k,nG p,nG f,sv,nS o z c,nS j q l,A] 111):=by rw[r];exact hZ (Ac.new w _ _).drew
 clear r;refine wp_region_any Yb ?_;change wpAny _ _ _ _ _ _ _ (World.drew _);rw[<-N.o];refine Gy _ (PX (Mu W w.heap.size (nS o z c) (nS j q l)) B) Yb ?_ ?_ _ ?_
 .intro U op a V O b m Z g d K n
  match U,b with
  |0,b=>
   obtain rfl:=Q5 b;have P:a.tmps.getD 0 undef= nP (nM ⟨W,0,nN⟩):=m.at 0 Yb;go_simp
   exact n _ _ Zh (d.put (by simp[Mu,FL]) cR)
  |1,b=>
   obtain rfl:=Q5 b;have R:a.tmps.getD 3 undef= nP (nM ⟨w.heap.size,0,nN⟩):=m.at 3 Yb;go_simp
   exact n _ _ Zh (d.put (by simp[Mu,FL]) cR)
  |2,b=>
   obtain rfl:=Q5 b;have T:a.tmps.getD 6 undef= nP (nM ⟨w.heap.size,4,nN⟩):=d.2 1 (g ⟨1,.data⟩ Zh rfl);have s:=D.o.kept d.1;have u:=s.cell 4;simp only[Qa,Qb]at u;go_simp
   exact n _ _ Zh (d.put (by simp[Mu,FL]) cR)
  |3,b=>
   obtain rfl:=Q5 b;have P:a.tmps.getD 0 undef= nP (nM ⟨W,0,nN⟩):=m.at 0 Yb;go_simp
   exact n _ _ Zh (d.put (by simp[Mu,FL]) cR)
  |4,b=>
   obtain rfl:=Q5 b;have R:a.tmps.getD 3 undef= nP (nM ⟨w.heap.size,0,nN⟩):=m.at 3 Yb;go_simp
   exact n _ _ Zh (d.put (by simp[Mu,FL]) cR)
  |5,b=>
   obtain rfl:=Q5 b;have T:a.tmps.getD 9 undef= nP (nM ⟨w.heap.size,5,nN⟩):=d.2 4 (g ⟨4,.data⟩ Zh rfl);have s:=D.o.kept d.1;have u:=s.cell 5;simp only[Qa,Qb]at u;go_simp
   exact n _ _ Zh (d.put (by simp[Mu,FL]) cR)
  |6,b=>
   obtain rfl:=Q5 b;have Y:a.tmps.getD 8 undef= nP (nM ⟨W,0,nN⟩):=d.2 3 (g ⟨3,.data⟩ Zh rfl);have X:a.tmps.getD 10 undef= nS j q l:=d.2 5 (g ⟨5,.data⟩ Zh rfl);go_simp
   go_at_call 170;refine(E.o V (C.o.trans d.1)).mono ?_;rintro e w1 ⟨G,Q⟩;unfold By at G;subst G;rw[M.o];exact⟨m.defers,rfl,((C.o.trans d.1).trans Q).none _⟩
  |7,b=>
   obtain rfl:=Q5 b;exact(d.2 6 (g ⟨6,.data⟩ Zh rfl):False).elim
  |8,b=>
   obtain rfl:=Q5 b;exact(d.2 7 (g ⟨7,.data⟩ Zh rfl):False).elim
  |9,b=>
   obtain rfl:=Q5 b;exact(d.2 8 (g ⟨8,.data⟩ Zh rfl):False).elim
  |10,b=>
   obtain rfl:=Q5 b;exact(d.2 9 (g ⟨9,.data⟩ Zh rfl):False).elim
  |_+11,b=>exact absurd b Zh
 .intro a wR O m S d
  exact(d.2 6 (S 6 ZM):False).elim
 .exact⟨Chg.refl _ _,fun _ e=>by cases e⟩
theorem NG(W:Nat)(t u:Tr)(v V vx:Vl)(bs:List Nat)(F F2:Nat->Prop)(H R:Option Addr)(c S:Nat)(ts I:List BY)(k:Int)(p f:BY)(sv:Vl)(w:Wl)(h:UI W t v V bs F (nS H ts.length c) ts w)(hf:JC w F2 (nS R I.length S) I)(U:Ah t I=nM u):
  Cl prog 132 #[nP (nM ⟨W,0,nN⟩),nA #[nI nX k,nG p,nG f,sv,nS H ts.length c,nS R I.length S,vx]] w (BC W V (W::bs) (KV t ts I) w):=by
 obtain⟨vu,bu,rest,aa⟩:=EU h.wat.at_ _ I _ rfl U;have ab:=h.wat.fine.lead U;have an:=hZ (Dl h.laid h.wat hf aa);obtain⟨tu,xu,rfl⟩:=aa.at_.iface;have aH:=UD (∀A,Chg w A []->NQ (nF tu xu) u A) fun A hx=>Xq _ u _ bu A (Q8 _) (Ar ab.fits).1 (aa.at_.chg hx Zh)
 have HR:=UD (KV t ts I=Ga t ts u []) (by unfold KV;rw[U]);have aW:=h.wat.blk.lt;have aV:=h.big W Zh;have aN:=AP.lt _ _ _ h.wat.at_
 have ak:=UD (∀s A X q,Chg w s []->AP A u X q->BP s q->Chg s A []->Cl prog 166 #[nP (nM ⟨W,0,nN⟩),nS H ts.length c,X] A (Cq W V (W::(q++bs)) t u ts A)) fun s A X q h1 h2 M h4=>by
  have hz:=h1.size;have aL:=h1.trans h4;have hk:=h.kept aL;refine Xo W t u v V X bs q F H c ts A ⟨hk.laid,hk.wat,h2,ab,hk.tat, ?_,fun b E=> ?_,fun b E o=> ?_⟩
  .have hn:=h.nodup
   simp only[List.nodup_cons,List.nodup_append,Qf,not_or]at hn|-;refine⟨⟨fun hm=>by have:=M.ge _ hm;omega,hn.1⟩,M.nodup,hn.2,fun x hx y hy e=> ?_⟩;subst e;have:=M.ge _ hx;have:=aN _ hy;omega
  .rcases Qh.1 E with m|m
   .omega
   .rcases Qf.1 m with m|m
    .have:=M.ge _ m;omega
    .exact h.big b (Qg _ m)
  .rcases Qh.1 E with m|m
   .exact h.apart b (by simp[m]) o
   .rcases Qf.1 m with m|m
    .have:=M.ge _ m;have:=h.tat.lt b o;omega
    .exact h.apart b (Qg _ m) o
 have HH:=hZ h;have aQ:=hZ ab;obtain⟨aG,K⟩:=Ue (Ga t ts u [])
 have am:=hZ K;obtain⟨tn,ad⟩:=Ue ts.length
 obtain⟨fn,ai⟩:=Ue I.length
 rw[<-ai]at an;rw[<-ad]at ak;have aR:=hZ ad;rw[HR.o,<-K,<-ad,<-ai];clear h hf ad ai U aa ab K;go_enter func132,ntmps132
 go_wp2_with fail
 obtain⟨s,ae⟩:=Ue (World.drew (w.alloc (nC #[nI nX k,nG p,nG f,sv,nS H tn c,nS R fn S,vx] 111)))
 have aI:=hZ ae;have P:Hid (Chg w s []):=by rw[ae];exact hZ (((Chg.refl w []).alloc _).drew)
 have al:Hid (Ac s w.heap.size [nI nX k,nG p,nG f,sv,nS H tn c,nS R fn S,vx] 111):=by rw[ae];exact hZ (Ac.new w _ _).drew
 clear ae;refine wp_region_any Yb ?_;change wpAny _ _ _ _ _ _ _ (World.drew _);rw[<-aI.o];refine Dg _ (IL s (FL W w.heap.size (nF tu xu) (nS H tn c) (nS R fn S)) (fun v w'=>∃q,AP w' u v q/\BP s q/\Chg s w' []) (ao W V bs aG s) (fun v w'=>BC W V (W::bs) aG w (nR v) w')) Yb ?_ ?_ _ ?_
 .intro ii op a wa B g o l C J d K y
  match ii,g with
  |0,g=>
   obtain rfl:=Q5 g;have h0:a.tmps.getD 0 undef= nP (nM ⟨W,0,nN⟩):=o.at 0 Yb;go_simp
   exact y _ _ Zh (d.read ZM l (by simp[FL]) cR (.inl rfl))
  |1,g=>
   obtain rfl:=Q5 g;have M:a.tmps.getD 3 undef= nP (nM ⟨w.heap.size,0,nN⟩):=o.at 3 Yb;go_simp
   exact y _ _ Zh (d.read ZM l (by simp[FL]) cR (.inl rfl))
  |2,g=>
   obtain rfl:=Q5 g;have hp:a.tmps.getD 6 undef= nP (nM ⟨w.heap.size,4,nN⟩):=d.vals 1 ZM (C ⟨1,.data⟩ Zh rfl)
   have L:B 8=false:=by
    cases e:B 8 with
    |false=>rfl
    |true=>have:=d.o8 e _ (by decide:2<8);rw[l]at this;cases this
   have ag:=al.o.kept (d.early L);have J:=ag.cell 4;simp only[Qa,Qb]at J;go_simp
   exact y _ _ Zh (d.read ZM l (by simp[FL]) cR (.inl rfl))
  |3,g=>
   obtain rfl:=Q5 g;have h0:a.tmps.getD 0 undef= nP (nM ⟨W,0,nN⟩):=o.at 0 Yb;go_simp
   exact y _ _ Zh (d.read ZM l (by simp[FL]) cR (.inl rfl))
  |4,g=>
   obtain rfl:=Q5 g;have M:a.tmps.getD 3 undef= nP (nM ⟨w.heap.size,0,nN⟩):=o.at 3 Yb;go_simp
   exact y _ _ Zh (d.read ZM l (by simp[FL]) cR (.inl rfl))
  |5,g=>
   obtain rfl:=Q5 g;have hp:a.tmps.getD 9 undef= nP (nM ⟨w.heap.size,5,nN⟩):=d.vals 4 ZM (C ⟨4,.data⟩ Zh rfl)
   have L:B 8=false:=by
    cases e:B 8 with
    |false=>rfl
    |true=>have:=d.o8 e _ (by decide:5<8);rw[l]at this;cases this
   have ag:=al.o.kept (d.early L);have J:=ag.cell 5;simp only[Qa,Qb]at J;go_simp
   exact y _ _ Zh (d.read ZM l (by simp[FL]) cR (.inl rfl))
  |6,g=>
   obtain rfl:=Q5 g
   have L:B 8=false:=by
    cases e:B 8 with
    |false=>rfl
    |true=>have:=d.o8 e _ (by decide:6<8);rw[l]at this;cases this
   have h8:a.tmps.getD 8 undef= nP (nM ⟨W,0,nN⟩):=d.vals 3 ZM (C ⟨3,.data⟩ Zh rfl);have aS:a.tmps.getD 10 undef= nS R fn S:=d.vals 5 ZM (C ⟨5,.data⟩ Zh rfl);go_simp
   go_at_call 170;refine(an.o wa (P.o.trans (d.early L))).mono ?_;rintro e w1 ⟨rfl,h1⟩;exact y _ _ Zh (d.read ZM l rfl h1 (.inr rfl))
  |7,g=>
   obtain rfl:=Q5 g
   have L:B 8=false:=by
    cases e:B 8 with
    |false=>rfl
    |true=>have:=d.o8 e _ (by decide:7<8);rw[l]at this;cases this
   have Q:=C ⟨6,.data⟩ Zh rfl;have aK:a.tmps.getD 11 undef= nF tu xu:=d.vals 6 ZM Q;have ah:=d.early L;obtain⟨ff,aJ,m1,m2⟩:=aH.o wa (P.o.trans ah);rw[Qr (by simp[Region.wanted])];refine I3 _ _ _ rfl _ aK ff aJ m1 _ m2 ?_;rintro e w1 ⟨X,q,rfl,q1,N,O⟩;exact⟨X,rfl,y _ _ Zh (d.made l Q ⟨q,q1,⟨N.nodup,fun b E=>Q7 ah.size (N.ge b E)⟩,ah.trans O⟩ O)⟩
  |8,g=>
   obtain rfl:=Q5 g;have d7:=C ⟨7,.data⟩ Zh rfl;have d2:=C ⟨2,.data⟩ Zh rfl;have Q:=d.o7 d7;have d5:=J 6 _ rfl Q ⟨5,.data⟩ Zh rfl
   have au:∀j,j<8->B j=true:=fun j hj=>by
    match j,hj with
    |0,_=>exact C ⟨0,.data⟩ Zh rfl
    |1,_=>exact J 2 _ rfl d2 ⟨1,.data⟩ Zh rfl
    |2,_=>exact d2
    |3,_=>exact J 6 _ rfl Q ⟨3,.data⟩ Zh rfl
    |4,_=>exact J 5 _ rfl d5 ⟨4,.data⟩ Zh rfl
    |5,_=>exact d5
    |6,_=>exact Q
    |7,_=>exact d7
   have m:a.tmps.getD 5 undef= nP (nM ⟨W,0,nN⟩):=d.vals 0 ZM (au 0 ZM);have h7:a.tmps.getD 7 undef= nS H tn c:=d.vals 2 ZM d2;obtain⟨q,q1,N,O⟩:=d.p7 d7 l;obtain⟨tc,xc,aq⟩:=q1.iface;rw[aq]at q1;have aT:a.tmps.getD 12 undef= nF tc xc:=aq;have HA:=ak.o s wa _ q P.o q1 N O;go_simp
   go_at_call 166;refine HA.mono ?_;intro e w1 aO;have hz:=P.o.size
   rcases NS [] aO with⟨n,Y,T,D⟩|⟨t',Y,v',ap,aX,ys,G,T,D,g4,g5,g6,g7⟩
   .unfold By at T
    subst T;rw[am.o,Y]
    exact⟨o.defers,rfl,(P.o.none _).trans ((O.none _).step D (fun i hi U=>by
     rcases Qh.1 hi with h|h
     .simp[h]
     .rcases Qf.1 h with h|h
      .have:=N.ge i h;omega
      .exact Qg _ h))⟩
   .subst T
    obtain⟨sa,sc,rfl,_⟩:=D.row.form;have aP:=O.size
    exact y _ _ Zh (d.added l au ⟨t',_,v',ap,sa,sc,ys,G,am.o.trans Y,rfl,⟨D.row,D.inn,D.steps,fun b E=>by have:=D.new b E;omega⟩,g4,⟨g5.nodup,fun b E=>by
     rcases g5.come b E with h|h
     .rcases Qh.1 h with h|h
      .exact .inl (by simp[h])
      .rcases Qf.1 h with h|h
       .exact .inr (N.ge b h)
       .exact .inl (Qg _ h)
     .exact .inr (Q7 aP h)⟩,(O.none _).step g6 (fun i hi U=>by
     rcases Qh.1 hi with h|h
     .simp[h]
     .rcases Qf.1 h with h|h
      .have:=N.ge i h;omega
      .exact Qg _ h),g7⟩)
  |9,g=>
   obtain rfl:=Q5 g;have d8:=C ⟨8,.data⟩ Zh rfl;obtain⟨t',r,v',ap,sa,sc,ys,G,Y,T,D,g4,g5,g6,g7⟩:=d.p8 d8 l;have ar:a.tmps.getD 13 undef= nA (BJ r.toI (nS sa r.toI.steps.length sc)).toArray:=T;unfold BJ at ar;have aU:a.tmps[13]?.getD undef= nA [Vl.int nX r.toI.kind,nG r.toI.path,nG r.toI.frm,nS sa r.toI.steps.length sc].toArray:=by rw[<-Qp];exact ar
   go_simp
   refine y _ _ Zh (d.built l d8 ?_);rw[Y];exact GC P.o D g4 g5 g6 g7 (Ac.new wa (BJ r.toI (nS sa r.toI.steps.length sc)) 42) (Q8 _) ((Chg.refl wa []).alloc _)
  |10,g=>
   obtain rfl:=Q5 g;have d9:=C ⟨9,.data⟩ Zh rfl;have aM:=d.end_ d9;go_simp
   exact y _ _ Zh (by rw[<-Qp];exact aM)
  |_+11,g=>exact absurd g Zh
 .intro a wR B o hd d
  have K:=d.p9 (hd 9 ZM);rw[<-d.p10 (hd 10 ZM)]at K;change BC _ _ _ _ _ (nR (a.tmps.getD 4 undef)) wR at K;have af:=hZ K;clear d hd K;have Z:=o.form' [5,6,7,8,9,10,11,12,13,14,4] Yb;have av:=o.defers;obtain⟨z,df⟩:=a;clear o
  dsimp only at Z av af
  simp only[List.foldl_cons,List.foldl_nil]at Z;obtain⟨u5,aB⟩:=Ue (z.getD 5 undef)
  obtain⟨u6,aC⟩:=Ue (z.getD 6 undef)
  obtain⟨u7,aD⟩:=Ue (z.getD 7 undef)
  obtain⟨u8,aE⟩:=Ue (z.getD 8 undef)
  obtain⟨u9,aF⟩:=Ue (z.getD 9 undef)
  obtain⟨u10,aw⟩:=Ue (z.getD 10 undef)
  obtain⟨u11,ax⟩:=Ue (z.getD 11 undef)
  obtain⟨u12,ay⟩:=Ue (z.getD 12 undef)
  obtain⟨u13,az⟩:=Ue (z.getD 13 undef)
  obtain⟨u14,aA⟩:=Ue (z.getD 14 undef)
  obtain⟨u4,aj⟩:=Ue (z.getD 4 undef)
  rw[<-aB,<-aC,<-aD,<-aE,<-aF,<-aw,<-ax,<-ay,<-az,<-aA,<-aj]at Z;rw[<-aj]at af;clear aB aC aD aE aF aw ax ay az aA aj;simp only[List.setIfInBounds_toArray,List.set_cons_zero,List.set_cons_succ]at Z;subst Z;subst av;go_wp2_with fail
  refine bodyPost_ret (results_tmp rfl _ _ _) rfl ?_;exact af.o
 .exact⟨fun _=>Chg.refl _ _,(fun _ _ e=>by cases e),(fun e=>by cases e),(fun e=>by cases e),(fun e=>by cases e),(fun e=>by cases e),(fun e=>by cases e),(fun e=>by cases e),(fun e=>by cases e),(fun e=>by cases e)⟩
def Rl(W B:Nat)(a c b:Vl)(j:Nat)(v:Vl):Prop:=match j with
 |0=>v=a
 |1=>v= nP (nM ⟨W,0,nN⟩)
 |2=>v= nP (nM ⟨B,4,nN⟩)
 |3=>v=b
 |4=>v=c
 |_=>True
def an(W:Nat)(j:Vl)(d:List Nat)(i:PV)(h:CW)(c:Wl)(v:Vl)(w:Wl):Prop:=
 ∃g r k a e f ys G,i= .yes g [r,h]/\v= nA (BJ r.toI (nS e r.toI.steps.length f)).toArray/\Dr c w r.toI (nS e r.toI.steps.length f) ys G/\Hu w W g k j a/\DJ c d (W::a)/\Chg c w d/\∀b,b∈W::a->¬G b
theorem Pk(W:Nat)(t u:Tr)(v A vx:Vl)(bs:List Nat)(F F2:Nat->Prop)(C J:Option Addr)(c L:Nat)(ts j:List BY)(k:Int)(p f:BY)(sv:Vl)(w:Wl)(h:UI W t v A bs F (nS C ts.length c) ts w)(hf:UI W t v A bs F2 (nS J j.length L) j w)(aR:j≠[])(br:f.size<=16777216)(hi:EV p f=false)(aS:p≠f)(M:Ah t j=nM u):
  Cl prog 131 #[nP (nM ⟨W,0,nN⟩),nA #[nI nX k,nG p,nG f,sv,nS C ts.length c,nS J j.length L,vx]] w (BC W A (W::bs) (FR t p f ts j) w):=by
 have hr:FR t p f ts j=Ga (A8 t j) ts u [⟨1,A6 j,Dz,Ai u⟩]:=by unfold FR;rw[Qs (by simp[hi]),M];dsimp only;rw[Qs aS]
 have hp:=GR p f;rw[hi]at hp
 have HP:=UD (∀l,Cl prog 169 #[nG p,nG (f++⟨#[47]⟩)] l fun e w'=>e= nR (.bool false)/\w'=l) fun l=>by
  have:=EH p (f++⟨#[47]⟩) l;rw[hp]at this;exact this
 obtain⟨bB,bi,bx,aO⟩:=EU h.wat.at_ _ j _ rfl M;have ak:=hZ (Dl h.laid h.wat hf.tat aO);have aP:=h.wat.fine.lead M;have bd:=AP.lt _ _ _ h.wat.at_;have bp:=h.wat.blk.lt;have bo:=h.big W Zh
 have af:=UD (∀l,Chg w l []->Cl prog 167 #[nP (nM ⟨W,0,nN⟩),nS J j.length L] l (T6 W A (W::bs) (A8 t j) u (AC 1 j (Ai u)) l)) fun l hx=>by
  have:=Xw W t v A bs F2 J L j l (hf.kept hx) aR;rwa[JF M]at this
 obtain⟨t1,au⟩:=Ue (A8 t j)
 obtain⟨O,aq⟩:=Ue ((⟨1,A6 j,Dz,Ai u⟩:CW))
 rw[<-au,<-aq]at hr;rw[<-au,show AC 1 j (Ai u)=O.toI by rw[aq];rfl]at af
 have ai:=UD (∀l vu z v1 x,Chg w l (W::bs)->AP l u vu z->Hu l W t1 v1 A x->DJ w (W::bs) (W::(z++x))->Cl prog 166 #[nP (nM ⟨W,0,nN⟩),nS C ts.length c,vu] l (Cq W A (W::(z++x)) t1 u ts l)) fun l vu z v1 x h1 h2 h3 h4=>by
  have hz:=h1.size;refine Xo W t1 u v1 A vu x z F C c ts l ⟨h.laid.kept h1 h.big,h3,h2,aP,h.tat.kept h1 h.apart,h4.nodup,fun b hb=> ?_,fun b hb o=> ?_⟩
  .rcases h4.come b hb with T|T
   .exact h.big b T
   .omega
  .rcases h4.come b hb with T|T
   .exact h.apart b T o
   .have:=h.tat.lt b o;omega
 obtain⟨a2,ar⟩:=Ue (Ga t1 ts u [O])
 have aC:=hZ ar;rw[hr,<-ar];obtain⟨tn,av⟩:=Ue ts.length
 obtain⟨fn,ah⟩:=Ue j.length
 obtain⟨m,ab⟩:=Ue O.toI
 have a5:=hZ ab;rw[<-ah,<-ab]at af;rw[<-ah]at ak;rw[<-av]at ai;rw[<-av,<-ah];have HH:=hZ h;have bf:¬p.toList=f.toList:=fun e=>aS (DK (by rwa[Lib.toList_data,Lib.toList_data]at e))
 have bt:(p.toList==f.toList)=false:=by simpa using bf
 clear hr hp hi h hf M aO aP ah av ar ab au aq aR;go_enter func131,ntmps131
 go_wp2_with(first
  |(go_at_call 169;refine(HP.o _).mono ?_;rintro e w1 ⟨rfl,rfl⟩)
  |(go_at_call_of 53 (Vl.bool true);refine(Bv _ _).mono ?_;rintro e B ⟨rfl,rfl⟩)
  |(go_at_call 170;refine(ak.o _ (by exact cg cR)).mono ?_;rintro e w2 ⟨rfl,h⟩;have H2:=UD (Chg w w2 []) (ct cR h);have P:=UD (Ac w2 w.heap.size [nI nX k,nG p,nG f,sv,nS C tn c,nS J fn L,vx] 111) ((Ac.new w [nI nX k,nG p,nG f,sv,nS C tn c,nS J fn L,vx] 111).kept h);have x1:=P.o.cell 1;have x2:=P.o.cell 2;have x5:=P.o.cell 5;simp only[Qa,Qb]at x1 x2 x5;clear h)
  |(go_at_call 167;refine(af.o _ (by exact cg H2.o)).mono ?_;rintro e s ⟨vu,z,v1,x,bz,bh,G1,rfl,k1,k2,k3,k4,k5,k6⟩;have ae:=UD (Chg w2 s (W::bs)) (ct cR k5);have a8:=hZ k5.size;have K1:=hZ k1;have K2:=hZ k2;have K3:=hZ k3;have K4:=hZ k4;have K6:=hZ k6;obtain⟨E,H,rfl,_⟩:=k1.row.form;clear k1 k2 k3 k4 k5 k6)
  |(refine Ae rfl _ _ _ rfl s.heap.size (BJ m (nS E m.steps.length H)) ZN ZN 42 Ef (by exact Ac.new s Ef 42) A0 rfl (Dx _ _ _ _) ?_;intro w7 a1 aK aQ;have az:=hZ aK;have aA:=hZ aQ;have aD:=hZ a1;clear a1 aK aQ))
 have ax:=aD.o;have ax:w7.heap.size=s.heap.size+1:=by simpa using ax
 have a0:=H2.o.size;have bu:=ae.o.size;have bv:=a8.o;have bq:=P.o.lt;have aG:Chg s w7 []:=(Chg.step (Chg.alloc cR _) aA.o (fun i hi M=>by simp at hi;omega));obtain⟨B,ad⟩:=Ue (World.drew w7)
 have a7:=hZ ad;have S:Chg s B []:=by rw[ad];exact aG.drew
 have bw:B.heap.size=s.heap.size+1:=by rw[ad];exact ax
 have aJ:Ac B s.heap.size (BJ m (nS E m.steps.length H)) 42:=by rw[ad];exact az.o.drew
 have al:Chg w B (W::bs):=(H2.o.none _).trans (ae.o.trans (S.none _))
 have be:∀y,y∈W::bs->y<w.heap.size:=fun y hy=>by
  rcases Qh.1 hy with h|h
  .omega
  .exact bd y h
 have aL:Ac B w.heap.size [nI nX k,nG p,nG f,sv,nS C tn c,nS J fn L,vx] 111:=(P.o.kept ae.o (fun hm=>Nat.lt_irrefl _ (be _ hm))).kept S;have am:DJ w (W::bs) (W::(z++x)):=K4.o.back a0;have aM:Dr w B m (nS E m.steps.length H) bh G1:=K1.o.keptG (w0:=w) S Zh a0;have ao:=K2.o.chg S Zh;have aN:=K3.o.kept S;obtain⟨tu,xu,rfl⟩:=ao.iface;have aI:=ai.o B _ z v1 x al ao aN am
 have bc:s.heap.size∉W::(z++x):=fun hm=>by
  rcases Qh.1 hm with h|h
  .have:=K3.o.blk.lt;omega
  .rcases Qf.1 h with h|h
   .have:=AP.lt _ _ _ K2.o _ h;omega
   .have:=AP.lt _ _ _ K3.o.at_ _ h;omega
 have H4:=hZ al;have ay:=hZ aJ;have a4:=hZ aL;have aB:=hZ am;have a6:=hZ aM;have a3:=hZ aI;clear ad aG S aJ al aL am aM ao aN aI aD az aA ae H2 P x1 x2 x5 K1 K2 K3 K4 ak af HP ai;refine wp_region_any Yb ?_;change wpAny _ _ _ _ _ _ _ (World.drew _);rw[<-a7.o];refine Dg _ (Kf B (Rl W w.heap.size (nA (BJ m (nS E m.steps.length H)).toArray) (nF tu xu) (nS C tn c)) (an W A (W::(z++x)) a2 O B) (fun v w'=>BC W A (W::bs) a2 w (nR v) w')) Yb ?_ ?_ _ ?_
 .intro ii op a wa q g o V N aa d K D
  match ii,g with
  |0,g=>
   obtain rfl:=Q5 g;have h6:a.tmps.getD 6 undef= nP (nM ⟨s.heap.size,0,nN⟩):=o.at 6 Yb
   have a9:Ac wa s.heap.size (BJ m (nS E m.steps.length H)) 42:=by
    cases e5:q 5 with
    |false=>rw[d.early e5];exact ay.o
    |true=>
     cases X:q 6 with
     |false=>
      obtain⟨_,_,_,_,_,_,_,_,_,_,_,_,_,Z,_⟩:=d.p5 e5 X;exact ay.o.kept Z bc
     |true=>have:=aa 6 _ rfl X ⟨0,.data⟩ Zh rfl;rw[V]at this;cases this
   obtain⟨_,_,y0,y1,y2,y3⟩:=a9.cells4;go_simp
   exact D _ _ Zh (d.read ZM rfl)
  |1,g=>
   obtain rfl:=Q5 g;have h0:a.tmps.getD 0 undef= nP (nM ⟨W,0,nN⟩):=o.at 0 Yb;go_simp
   exact D _ _ Zh (d.read ZM (by simp[Rl]))
  |2,g=>
   obtain rfl:=Q5 g;have h3:a.tmps.getD 3 undef= nP (nM ⟨w.heap.size,0,nN⟩):=o.at 3 Yb;go_simp
   exact D _ _ Zh (d.read ZM (by simp[Rl]))
  |3,g=>
   obtain rfl:=Q5 g;have hp:a.tmps.getD 37 undef= nP (nM ⟨w.heap.size,4,nN⟩):=d.vals 2 ZM (N ⟨2,.data⟩ Zh rfl)
   have e5:q 5=false:=by
    cases e:q 5 with
    |false=>rfl
    |true=>have:=aa 5 _ rfl e ⟨3,.data⟩ Zh rfl;rw[V]at this;cases this
   have hw:=d.early e5;subst hw;have ba:=a4.o.cell 4;simp only[Qa,Qb]at ba;go_simp
   exact D _ _ Zh (d.read ZM (by simp[Rl]))
  |4,g=>
   obtain rfl:=Q5 g;have T:a.tmps.getD 5 undef= nF tu xu:=o.at 5 Yb;go_simp
   exact D _ _ Zh (d.read ZM (by simp[Rl]))
  |5,g=>
   obtain rfl:=Q5 g;have bk:a.tmps.getD 36 undef= nP (nM ⟨W,0,nN⟩):=d.vals 1 ZM (N ⟨1,.data⟩ Zh rfl);have bl:a.tmps.getD 38 undef= nS C tn c:=d.vals 3 ZM (N ⟨3,.data⟩ Zh rfl);have bm:a.tmps.getD 39 undef= nF tu xu:=d.vals 4 ZM (N ⟨4,.data⟩ Zh rfl);have hw:=d.early V;subst hw
   have X:q 6=false:=by
    cases e:q 6 with
    |false=>rfl
    |true=>have:=aa 6 _ rfl e ⟨5,.data⟩ Zh rfl;rw[V]at this;cases this
   have e7:q 7=false:=by
    cases e:q 7 with
    |false=>rfl
    |true=>have:=aa 7 _ rfl e ⟨6,.data⟩ Zh rfl;rw[X]at this;cases this
   go_simp
   go_at_call 166;refine a3.o.mono ?_;intro e w1 bg
   rcases NS [O] bg with⟨n,Y,Q,R⟩|⟨t',Y,v',aE,bA,ys,G,Q,R,g4,g5,Z,g7⟩
   .unfold By at Q
    subst Q;rw[aC.o,Y];have hz:=H4.o.size;exact⟨o.defers,rfl,H4.o.step R (fun i hi M=>by rcases aB.o.come i hi with h|h;exact h;omega)⟩
   .subst Q
    obtain⟨sa,sc,rfl,_⟩:=R.row.form;exact D _ _ Zh (d.added X e7 ⟨t',_,v',aE,sa,sc,ys,G,aC.o.trans Y,rfl,R,g4,g5,Z,g7⟩)
  |6,g=>
   obtain rfl:=Q5 g;have d5:=N ⟨5,.data⟩ Zh rfl;have d0:=N ⟨0,.data⟩ Zh rfl
   have e7:q 7=false:=by
    cases e:q 7 with
    |false=>rfl
    |true=>have:=aa 7 _ rfl e ⟨6,.data⟩ Zh rfl;rw[V]at this;cases this
   obtain⟨t',r,v',aE,sa,sc,ys,G,Y,Q,R,g4,g5,Z,g7⟩:=d.p5 d5 V;have aH:a.tmps.getD 40 undef= nA (BJ r.toI (nS sa r.toI.steps.length sc)).toArray:=Q;have aF:a.tmps.getD 35 undef= nA (BJ m (nS E m.steps.length H)).toArray:=d.vals 0 ZM d0;unfold BJ at aH aF;have bn:a.tmps[40]?.getD undef= nA [Vl.int nX r.toI.kind,nG r.toI.path,nG r.toI.frm,nS sa r.toI.steps.length sc].toArray:=by rw[<-Qp];exact aH
   have bj:a.tmps[35]?.getD undef= nA [Vl.int nX m.kind,nG m.path,nG m.frm,nS E m.steps.length H].toArray:=by rw[<-Qp];exact aF
   have HU:=a6.o;go_simp
   refine D _ _ Zh (d.built d5 e7 ?_);have ab:=a5.o;subst ab;rw[Y];exact Yn HU aB.o H4.o (fun b hb=>K6.o b hb) R g4 g5 Z g7 (Ac.new wa (BJ O.toI (nS E O.toI.steps.length H)++BJ r.toI (nS sa r.toI.steps.length sc)) 42) (Q8 _) ((Chg.refl wa []).alloc _)
  |7,g=>
   obtain rfl:=Q5 g;have d6:=N ⟨6,.data⟩ Zh rfl;have bb:=d.end_;go_simp
   exact D _ _ Zh (by rw[<-Qp];exact bb)
  |_+8,g=>exact absurd g Zh
 .intro a wR q o hd d
  have ag:=d.p6 (hd 6 ZM);rw[<-d.p7 (hd 7 ZM)]at ag;change BC _ _ _ _ _ (nR (a.tmps.getD 4 undef)) wR at ag;have aj:=hZ ag;clear d hd ag;have U:=o.form' [35,36,37,38,39,40,41,4] Yb;have ap:=o.defers;obtain⟨I,df⟩:=a;clear o
  dsimp only at U ap aj
  simp only[List.foldl_cons,List.foldl_nil]at U;obtain⟨u35,aT⟩:=Ue (I.getD 35 undef)
  obtain⟨u36,aU⟩:=Ue (I.getD 36 undef)
  obtain⟨u37,aV⟩:=Ue (I.getD 37 undef)
  obtain⟨u38,aW⟩:=Ue (I.getD 38 undef)
  obtain⟨u39,aX⟩:=Ue (I.getD 39 undef)
  obtain⟨u40,aY⟩:=Ue (I.getD 40 undef)
  obtain⟨u41,aZ⟩:=Ue (I.getD 41 undef)
  obtain⟨u4,aw⟩:=Ue (I.getD 4 undef)
  rw[<-aT,<-aU,<-aV,<-aW,<-aX,<-aY,<-aZ,<-aw]at U;rw[<-aw]at aj;clear aT aU aV aW aX aY aZ aw
  dsimp only[Act.put]at U ap
  simp only[List.setIfInBounds_toArray,List.set_cons_zero,List.set_cons_succ]at U;subst U;subst ap;go_wp2_with fail
  refine bodyPost_ret (results_tmp rfl _ _ _) rfl ?_;exact aj.o
 .exact⟨fun _=>rfl,(fun _ _ e=>by cases e),(fun e=>by cases e),(fun e=>by cases e),(fun e=>by cases e)⟩
def CP(k:Int):Bool:=decide (1<=k/\k<=6)
theorem Jm(k:Int)(w:Wl):Cl prog 90 #[nI nX k] w fun e w'=>e= nR (nT #[.bool (AO k),.bool (AN k),.bool (CP k)])/\Chg w w' []:=by
 have o:AO k=(decide (k=4)||decide (k=5)):=rfl;have p:AN k=(decide (k=1)||decide (k=3)||decide (k=6)):=rfl;by_cases a:k=1
 .subst a
  go_enter func90,ntmps90
  go_wp2
  exact bodyPost_ret (results_tmp3 rfl _ _ _) rfl ⟨rfl,Chg.refl _ _⟩
 by_cases b:k=2
 .subst b
  go_enter func90,ntmps90
  go_wp2
  exact bodyPost_ret (results_tmp3 rfl _ _ _) rfl ⟨rfl,Chg.refl _ _⟩
 by_cases c:k=3
 .subst c
  go_enter func90,ntmps90
  go_wp2
  exact bodyPost_ret (results_tmp3 rfl _ _ _) rfl ⟨rfl,Chg.refl _ _⟩
 by_cases d:k=4
 .subst d
  go_enter func90,ntmps90
  go_wp2
  exact bodyPost_ret (results_tmp3 rfl _ _ _) rfl ⟨rfl,Chg.refl _ _⟩
 by_cases f:k=5
 .subst f
  go_enter func90,ntmps90
  go_wp2
  exact bodyPost_ret (results_tmp3 rfl _ _ _) rfl ⟨rfl,Chg.refl _ _⟩
 by_cases g:k=6
 .subst g
  go_enter func90,ntmps90
  go_wp2
  exact bodyPost_ret (results_tmp3 rfl _ _ _) rfl ⟨rfl,Chg.refl _ _⟩
 have h:decide (k=1)=false:=by simpa using a
 have q:decide (k=2)=false:=by simpa using b
 have i:decide (k=3)=false:=by simpa using c
 have j:decide (k=4)=false:=by simpa using d
 have l:decide (k=5)=false:=by simpa using f
 have m:decide (k=6)=false:=by simpa using g
 have n:CP k=false:=by unfold CP;rw[decide_eq_false_iff_not];omega
 rw[o,p,n,h,i,j,l,m];go_enter func90,ntmps90
 go_wp2
 exact bodyPost_ret (results_tmp3 rfl _ _ _) rfl ⟨rfl,Chg.refl _ _⟩
def HJ(W:Nat):List Vl:=[128,129,130,131,132,133].map fun n=> .func (.func n) #[nP (nM ⟨W,0,nN⟩)] #[]
theorem ZA(W:Nat)(w:Wl):Cl prog 77 #[nP (nM ⟨W,0,nN⟩)] w fun e w'=>e= nR (nS (nM ⟨w.heap.size,0,nN⟩) 6 6)/\Ac w' w.heap.size (HJ W) 163/\Chg w w' []:=by
 go_enter func77,ntmps77
 go_wp2
 refine bodyPost_ret (results_tmp rfl _ _ _) rfl ⟨rfl, ?_,by exact cg cR⟩;exact Ac.new w (HJ W) _
end
end Go.Proofs.YtkfnkppdhcaeoaaGreatDoor

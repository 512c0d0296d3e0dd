/- Part 4 of the proof of patchKnown_card. -/
import Derived.Test.YtkfnkppdhcaeoaaGreatDoorM28
import Derived.Test.YtkfnkppdhcaeoaaGreatDoorW03
set_option maxRecDepth 100000
set_option maxHeartbeats 32000000
set_option linter.all false
namespace Go.Proofs.YtkfnkppdhcaeoaaGreatDoor
open Go renaming Calls->Cl,TypeId->Ti,Value->Vl,World->Wl
open Go.Value renaming agg->nA,int->nI,pointer->nP,slice->nS,string->nG,tuple->nT
open Go.IntKind renaming i64->nX
open Go.Ending renaming returned->nR
open Go.Obj renaming cells->nC
open Option renaming none->nN,some->nM
section
open _root_.Go.Proofs.Tryz
open Go Go.Shelf Go.RowKit Go.Lib Tree Ptr
def mT:List Vl:=AI (Fv f1) IQ++(AI (Fv f2) IQ++(AI (Un 2) IQ++[]))
structure ng(w0:Wl)(B5 N bql:Nat)(wx:Wl):Prop where
 kfi:Ac wx B5 (AI (Fv f5) IQ) 72
 knu:Ac wx N (AI Y7 IQ) 72
 kli:Ac wx bql mT 72
 chg:Chg w0 wx []
theorem ng.kept{w0 d w':Wl}{b N c:Nat}(h:ng w0 b N c d)(a:Chg d w' []):ng w0 b N c w':=⟨h.kfi.kept a,h.knu.kept a,h.kli.kept a,h.chg.trans a⟩
theorem mJ{k:Int}{p f:BY}{s:List Ap}(d:p.size<=100)(b:f.size<=100)(a:∀x∈s,Di x)(c:s.length<=100):T7 (mM k p f s):=⟨by show p.size<=_;omega,by show f.size<=_;omega,a,by show s.length<=_;omega⟩
theorem mR:∀x∈([]:List Ap),Di x:=fun x h=>by cases h
theorem mQ:∀x∈mP,Di x:=KI qze
theorem nW:∀x∈[Fv f1],Di x:=KI (t:= .num f1) ⟨Xb,ZM⟩
theorem oh:∀x∈mV,Di x:=KI mY
theorem qzc{w:Wl}{B:Nat}{o:Bq}{sv:Vl}{ys:List Vl}(a:Ac w B (BJ o sv) 42)(b:As w sv 6 o.steps.length ys)(c:Az w o.steps ys)(d:T7 o):nf w [o] (nS (nM ⟨B,0,nN⟩) 1 1) (BJ o sv++[]):=
 ⟨As.ofBlk (a.eq Zh) rfl,⟨sv,ys,[],rfl,b,c,rfl⟩,fun p e=>by rw[List.mem_singleton.1 e];exact d,Zh⟩
theorem nh{w:Wl}{B:Nat}{o p:Bq}{sv a:Vl}{ys b:List Vl}(d:Ac w B (BJ o sv++BJ p a) 42)(e:As w sv 6 o.steps.length ys)(g:Az w o.steps ys)(i:T7 o)(f:As w a 6 p.steps.length b)(h:Az w p.steps b)(j:T7 p):nf w [o,p] (nS (nM ⟨B,0,nN⟩) 2 2) (BJ o sv++(BJ p a++[])):=
 ⟨As.ofBlk (d.eq Zh) rfl,⟨sv,ys,_,rfl,e,g,a,b,[],rfl,f,h,rfl⟩,fun q c=>by simp only[Qh,List.not_mem_nil,or_false]at c;rcases c with rfl|rfl;exact i;exact j,Zh⟩
theorem mL{w:Wl}{B:Nat}(h:Ac w B (AI (Fv f5) IQ) 72):As w (nS (nM ⟨B,0,nN⟩) 1 1) 6 mP.length (AI (Fv f5) IQ)/\Az w mP (AI (Fv f5) IQ):=⟨As.ofBlk h rfl,⟨IQ,[],Zh,As.nil w 1,rfl⟩⟩
theorem ns{w:Wl}{B:Nat}(h:Ac w B (AI (Fv f1) IQ) 72):As w (nS (nM ⟨B,0,nN⟩) 1 1) 6 [Fv f1].length (AI (Fv f1) IQ)/\Az w [Fv f1] (AI (Fv f1) IQ):=⟨As.ofBlk h rfl,⟨IQ,[],Zh,As.nil w 1,rfl⟩⟩
theorem mW{w:Wl}{B:Nat}(h:Ac w B mT 72):As w (nS (nM ⟨B,0,nN⟩) 3 3) 6 mV.length mT/\Az w mV mT:=⟨As.ofBlk h rfl,Az.cons (As.nil w 1) (Az.cons (As.nil w 1) (Az.cons (As.nil w 1) rfl))⟩
theorem mK(w:Wl):As w (nS nN 0 0) 6 ([]:List Ap).length []/\Az w [] []:=⟨As.nil w 6,rfl⟩
def m8(w:Wl):Prop:=∀a,Chg w a []->∀(b:List Bq) (c d:Vl) (ys:List Vl) (t:Tr) (u:List CW),nf a b c ys->Bt t->BR T0 [] 0 b= .yes t u->DX a d (MW t)->Cl prog 32 #[d,nI nX 0,nI nX 0,c] a (BU true a)
def qza(w:Wl):Prop:=∀a,Chg w a []->∀(b:List Bq) (c:Vl) (ys:List Vl) (k i:Nat),nf a b c ys->k≠0->BR T0 [] 0 b= .no k i->Cl prog 32 #[nS nN 0 0,nI nX k,nI nX i,c] a (BU true a)
theorem mX{o p:Bq}{a b:Tr}{u v:List CW}(c:Gz T0 o= .yes a u)(d:Gz a p= .yes b v):BR T0 [] 0 [o,p]= .yes b (v++(u++[])):=by
 unfold BR;rw[c];show BR a (u++[]) (0+1) [p]=_;unfold BR;rw[d];rfl
theorem nu{o:Bq}{a:Tr}{u:List CW}(b:Gz T0 o= .yes a u):BR T0 [] 0 [o]= .yes a (u++[]):=by
 unfold BR;rw[b];rfl
theorem oK{o:Bq}{k:Nat}(h:Gz T0 o= .no k):BR T0 [] 0 [o]= .no k 0:=by unfold BR;rw[h]
theorem og{o:Bq}{k:Nat}(h:Gz T0 o= .no k):BR T0 [] 0 [ol,o]= .no k 1:=by
 unfold BR;rw[qzd];show BR T0 ([]++[]) (0+1) [o]=_;unfold BR;rw[h]
def pE(K:Nat):List Vl:=AI (Fv f2) IQ++(AI (Un 1) IQ++(AI (Fv f5) IQ++(AI (Ve [kA,kB]) (nS (nM ⟨K,0,nN⟩) 2 2)++[])))
theorem oA{w a:Wl}{G W O b:Nat}(d:m8 w)(h:Chg w a [])(e:Ac a G (Ad [kA,kB]) 9)(g:Ac a W (pE G) 72)(f:Ac a O (BJ (mM 2 ⟨#[47,97,47,48]⟩ Dz []) IQ++BJ (mM 3 ⟨#[47,98]⟩ Dz mP) (nS (nM ⟨b,0,nN⟩) 1 1)) 42)(c:Ac a b (AI (Fv f5) IQ) 72):
  Cl prog 32 #[nS (nM ⟨W,0,nN⟩) 4 4,nI nX 0,nI nX 0,nS (nM ⟨O,0,nN⟩) 2 2] a (BU true a):=
 d a h _ _ _ _ oH _ (nh f (mK a).1 (mK a).2 (mJ ZM ZM mR ZM) (mL c).1 (mL c).2 (mJ ZM ZM mQ ZM)) nZ (mX oM oN)
  (SL (As.ofBlk g rfl) (Az.cons (As.nil a 1) (Az.cons (As.nil a 1) (Az.cons (As.nil a 1) (Az.cons (As.ofBlk e rfl) rfl)))))
def pm(K L:Nat):List Vl:=AI (Fv f2) IQ++(AI Y7 IQ++(AI (Fv f1) IQ++(AI (Fv f2) IQ++(AI (Un 2) IQ++(AI (Ve [kC,kX]) (nS (nM ⟨K,0,nN⟩) 2 2)++(AI (Ve [kA,kB]) (nS (nM ⟨L,0,nN⟩) 2 2)++[]))))))
def pg:List Vl:=BJ (mM 4 ⟨#[47,98,47,120]⟩ ⟨#[47,97]⟩ []) IQ++BJ (mM 5 ⟨#[47,97]⟩ ⟨#[47,98,47,120,47,49]⟩ []) IQ
def qzf(j:Nat)(y:Vl):Prop:=match j with
 |0=>y= nA #[nI nX 3,.bool false,nI .u64 4611686018427387904,nG ⟨#[]⟩,nI nX 0,nS nN 0 0]
 |1=>y= nA #[nI nX 1,.bool false,nI .u64 0,nG ⟨#[]⟩,nI nX 0,nS nN 0 0]
 |2=>y= nA #[nI nX 3,.bool false,nI .u64 4607182418800017408,nG ⟨#[]⟩,nI nX 0,nS nN 0 0]
 |3=>y= nA #[nI nX 3,.bool false,nI .u64 4611686018427387904,nG ⟨#[]⟩,nI nX 0,nS nN 0 0]
 |4=>y= nA #[nI nX 5,.bool false,nI .u64 0,nG ⟨#[]⟩,nI nX 2,nS nN 0 0]
 |10=>y= nA #[nI nX 4,nG ⟨#[47,98,47,120]⟩,nG ⟨#[47,97]⟩,nS nN 0 0]
 |11=>y= nA #[nI nX 5,nG ⟨#[47,97]⟩,nG ⟨#[47,98,47,120,47,49]⟩,nS nN 0 0]
 |13=>y= .bool true
 |14=>y= .bool false
 |_=>True
structure K7(w:Wl)(B5 N bql:Nat)(d:Nat->Bool)(f:Nat->Vl)(wx:Wl):Prop where
 kn:ng w B5 N bql wx
 vals:∀j,d j=true->qzf j (f j)
 c5:d 5=true->∃g,f 5= nS (nM ⟨g,0,nN⟩) 2 2/\Ac wx g (Ad [kC,kX]) 9
 c6:d 6=true->∃g,f 6= nA #[nI nX 6,.bool false,nI .u64 0,nG ⟨#[]⟩,nI nX 0,nS (nM ⟨g,0,nN⟩) 2 2]/\Ac wx g (Ad [kC,kX]) 9
 c7:d 7=true->∃g,f 7= nS (nM ⟨g,0,nN⟩) 2 2/\Ac wx g (Ad [kA,kB]) 9
 c8:d 8=true->∃g,f 8= nA #[nI nX 6,.bool false,nI .u64 0,nG ⟨#[]⟩,nI nX 0,nS (nM ⟨g,0,nN⟩) 2 2]/\Ac wx g (Ad [kA,kB]) 9
 c9:d 9=true->∃g K L,f 9= nS (nM ⟨g,0,nN⟩) 7 7/\Ac wx g (pm K L) 72/\Ac wx K (Ad [kC,kX]) 9/\Ac wx L (Ad [kA,kB]) 9
 c12:d 12=true->∃g,f 12= nS (nM ⟨g,0,nN⟩) 2 2/\Ac wx g pg 42
theorem K7.step{w q n:Wl}{r N s j:Nat}{d:Nat->Bool}{f:Nat->Vl}{y:Vl}(h:K7 w r N s d f q)(t:Chg q n [])(E:qzf j y)(v:j=5->∃g,y= nS (nM ⟨g,0,nN⟩) 2 2/\Ac n g (Ad [kC,kX]) 9)(x:j=6->∃g,y= nA #[nI nX 6,.bool false,nI .u64 0,nG ⟨#[]⟩,nI nX 0,nS (nM ⟨g,0,nN⟩) 2 2]/\Ac n g (Ad [kC,kX]) 9)(z:j=7->∃g,y= nS (nM ⟨g,0,nN⟩) 2 2/\Ac n g (Ad [kA,kB]) 9)(A:j=8->∃g,y= nA #[nI nX 6,.bool false,nI .u64 0,nG ⟨#[]⟩,nI nX 0,nS (nM ⟨g,0,nN⟩) 2 2]/\Ac n g (Ad [kA,kB]) 9)(B:j=9->∃g K L,y= nS (nM ⟨g,0,nN⟩) 7 7/\Ac n g (pm K L) 72/\Ac n K (Ad [kC,kX]) 9/\Ac n L (Ad [kA,kB]) 9)(u:j=12->∃g,y= nS (nM ⟨g,0,nN⟩) 2 2/\Ac n g pg 42):K7 w r N s (BA d j) (Eb f j y) n:=by
 have o:∀{b:Nat} {cs:List Vl} {T:Ti},Ac q b cs T->Ac n b cs T:=fun C=>C.kept t
 have p:∀i,i≠j->BA d j i=true->d i=true:=fun i hi h=>by rwa[An d hi]at h
 refine⟨h.kn.kept t,fun k D=> ?_,fun m=> ?_,fun m=> ?_,fun m=> ?_,fun m=> ?_,fun m=> ?_,fun m=> ?_⟩
 .by_cases e:k=j
  .subst e;rw[Bf];exact E
  .rw[AA f y e];exact h.vals k (p k e D)
 .by_cases e:(5:Nat)=j
  .subst e;rw[Bf];exact v rfl
  .rw[AA f y e];obtain⟨g,a,b⟩:=h.c5 (p _ e m);exact⟨g,a,o b⟩
 .by_cases e:(6:Nat)=j
  .subst e;rw[Bf];exact x rfl
  .rw[AA f y e];obtain⟨g,a,b⟩:=h.c6 (p _ e m);exact⟨g,a,o b⟩
 .by_cases e:(7:Nat)=j
  .subst e;rw[Bf];exact z rfl
  .rw[AA f y e];obtain⟨g,a,b⟩:=h.c7 (p _ e m);exact⟨g,a,o b⟩
 .by_cases e:(8:Nat)=j
  .subst e;rw[Bf];exact A rfl
  .rw[AA f y e];obtain⟨g,a,b⟩:=h.c8 (p _ e m);exact⟨g,a,o b⟩
 .by_cases e:(9:Nat)=j
  .subst e;rw[Bf];exact B rfl
  .rw[AA f y e];obtain⟨g,K,L,a,b,c,l⟩:=h.c9 (p _ e m);exact⟨g,K,L,a,o b,o c,o l⟩
 .by_cases e:(12:Nat)=j
  .subst e;rw[Bf];exact u rfl
  .rw[AA f y e];obtain⟨g,a,b⟩:=h.c12 (p _ e m);exact⟨g,a,o b⟩
theorem K7.plain{w g i:Wl}{b N c j:Nat}{d:Nat->Bool}{f:Nat->Vl}{y:Vl}(h:K7 w b N c d f g)(k:Chg g i [])(l:qzf j y)(a:j≠5/\j≠6/\j≠7/\j≠8/\j≠9/\j≠12):K7 w b N c (BA d j) (Eb f j y) i:=
 h.step k l (fun e=>absurd e a.1) (fun e=>absurd e a.2.1) (fun e=>absurd e a.2.2.1) (fun e=>absurd e a.2.2.2.1) (fun e=>absurd e a.2.2.2.2.1) (fun e=>absurd e a.2.2.2.2.2)
theorem oB{w a:Wl}{K L W O:Nat}(b:m8 w)(g:Chg w a [])(c:Ac a K (Ad [kC,kX]) 9)(d:Ac a L (Ad [kA,kB]) 9)(f:Ac a W (pm K L) 72)(e:Ac a O pg 42):
  Cl prog 32 #[nS (nM ⟨W,0,nN⟩) 7 7,nI nX 0,nI nX 0,nS (nM ⟨O,0,nN⟩) 2 2] a (BU true a):=
 b a g _ _ _ _ qzg _ (nh e (mK a).1 (mK a).2 (mJ ZM ZM mR ZM) (mK a).1 (mK a).2 (mJ ZM ZM mR ZM)) od (mX oO oP)
  (SL (As.ofBlk f rfl) (Az.cons (As.nil a 1) (Az.cons (As.nil a 1) (Az.cons (As.nil a 1) (Az.cons (As.nil a 1) (Az.cons (As.nil a 1) (Az.cons (As.ofBlk c rfl) (Az.cons (As.ofBlk d rfl) rfl))))))))
def pA(a:Nat):List Vl:=BJ (mM 1 Dz Dz mP) (nS (nM ⟨a,0,nN⟩) 1 1)
theorem oC{w a:Wl}{O c:Nat}(d:m8 w)(f:Chg w a [])(e:Ac a O (pA c) 42)(b:Ac a c (AI (Fv f5) IQ) 72):
  Cl prog 32 #[nS (nM ⟨c,0,nN⟩) 1 1,nI nX 0,nI nX 0,nS (nM ⟨O,0,nN⟩) 1 1] a (BU true a):=
 d a f _ _ _ _ (.num f5) _ (qzc e (mL b).1 (mL b).2 (mJ ZM ZM mQ ZM)) qze (nu pn) (SL (mL b).1 (mL b).2)
def pC:List Vl:=BJ (mM 4 Dz ⟨#[47,97,47,49]⟩ []) IQ
theorem oD{w a:Wl}{W O:Nat}(b:m8 w)(e:Chg w a [])(d:Ac a W (AI (Fv f2) IQ) 72)(c:Ac a O pC 42):
  Cl prog 32 #[nS (nM ⟨W,0,nN⟩) 1 1,nI nX 0,nI nX 0,nS (nM ⟨O,0,nN⟩) 1 1] a (BU true a):=
 b a e _ _ _ _ (.num f2) _ (qzc c (mK a).1 (mK a).2 (mJ ZM ZM mR ZM)) oe (nu po)
  (SL (As.ofBlk d rfl) (Az.cons (As.nil a 1) rfl))
def pD(a F:Nat):List Vl:=BJ (mM 6 ⟨#[47,97]⟩ Dz mV) (nS (nM ⟨a,0,nN⟩) 3 3)++BJ ol (nS (nM ⟨F,0,nN⟩) 1 1)
theorem oE{w a:Wl}{g F O c:Nat}{xs:List Vl}(e:m8 w)(j:Chg w a [])(h:As a (nS (nM ⟨g,0,nN⟩) 6 6) 6 6 xs)(i:Az a Ut xs)(b:Ac a F (AI (Fv f1) IQ) 72)(f:Ac a O (pD c F) 42)(d:Ac a c mT 72):
  Cl prog 32 #[nS (nM ⟨g,0,nN⟩) 6 6,nI nX 0,nI nX 0,nS (nM ⟨O,0,nN⟩) 2 2] a (BU true a):=
 e a j _ _ _ _ T0 _ (nh f (mW d).1 (mW d).2 (mJ ZM ZM oh ZM) (ns b).1 (ns b).2 (mJ ZM ZM nW ZM)) LH (mX pp qzd)
  (SL h i)
def pf:List (Nat×Bq):=[(173,mM 6 ⟨#[47,98,47,99]⟩ Dz mP),(176,mM 2 Dz Dz []),(175,mM 4 ⟨#[47,98,47,99,47,120]⟩ ⟨#[47,98]⟩ []),(4,mM 1 ⟨#[47,97,47,51]⟩ Dz mP),(172,mM 1 ⟨#[47,97,47,48,49]⟩ Dz mP),(5,mM 1 ⟨#[47,97,47,48,47,120]⟩ Dz mP),(4,mM 2 ⟨#[47,97,47,45]⟩ Dz []),(171,mM 1 ⟨#[120]⟩ Dz mP),(170,mM 7 Dz Dz []),(174,mM 1 ⟨#[47,97]⟩ Dz [])]
def nH(a:Nat)(o:Bq):Vl:=if o.steps.isEmpty then IQ else nS (nM ⟨a,0,nN⟩) 1 1
def oi(a:Nat):List Vl:=pf.flatMap fun p=> nI nX p.1::BJ p.2 (nH a p.2)
structure ow(w:Wl)(B5:Nat)(k:Nat)(o:Bq):Prop where
 no:Gz T0 o= .no k
 pos:k≠0
 smallK:k<1000
 small:T7 o
 steps:∀wx,Chg w wx []->∃ys,As wx (nH B5 o) 6 o.steps.length ys/\Az wx o.steps ys
 form:∃a n,nH B5 o= nS a n n
theorem oL{w:Wl}{q:Nat}(t:Ac w q (AI (Fv f5) IQ) 72){i:Nat}{p:Nat×Bq}(h:pf[i]? =nM p):ow w q p.1 p.2/\∀j v,(nI nX p.1::BJ p.2 (nH q p.2):List Vl)[j]? =nM v->(oi q)[i*5+j]? =nM v:=by
 have r:∀k,Chg w k []->∃ys,As k (nS (nM ⟨q,0,nN⟩) 1 1) 6 mP.length ys/\Az k mP ys:=fun k u=>⟨_,(mL (t.kept u)).1,(mL (t.kept u)).2⟩
 have s:∀k,Chg w k []->∃ys,As k IQ 6 ([]:List Ap).length ys/\Az k [] ys:=fun k _=>⟨_,(mK k).1,(mK k).2⟩
 have g:∀(l m:List Vl) (j:Nat) (v:Vl),l[j]? =nM v->(∀j:Nat,j<5->m[j]? =l[j]?)->l.length=5->m[j]? =nM v:=fun l m j v f x y=>by
  have:j<5:=by have:=(Qc.1 f).1;omega
  rw[x j this];exact f
 have o:∀(l:List Vl) (i j:Nat),l[i*5+j]? =(l.drop (i*5))[j]? :=fun l i j=>by rw[List.getElem?_drop]
 have n:∀{P:Nat->Prop},P 0->P 1->P 2->P 3->P 4->∀j,j<5->P j:=fun a b c d e j g=>by
  match j,g with
  |0,_=>exact a
  |1,_=>exact b
  |2,_=>exact c
  |3,_=>exact d
  |4,_=>exact e
 match i,h with
 |0,h=>injection h with h;subst h;exact⟨⟨oS,ZM,ZM,mJ ZM ZM mQ ZM,r,⟨_,_,rfl⟩⟩,fun j v f=>(o _ _ _).trans (g _ _ j v f (n rfl rfl rfl rfl rfl) rfl)⟩
 |1,h=>injection h with h;subst h;exact⟨⟨oT,ZM,ZM,mJ ZM ZM mR ZM,s,⟨_,_,rfl⟩⟩,fun j v f=>(o _ _ _).trans (g _ _ j v f (n rfl rfl rfl rfl rfl) rfl)⟩
 |2,h=>injection h with h;subst h;exact⟨⟨oU,ZM,ZM,mJ ZM ZM mR ZM,s,⟨_,_,rfl⟩⟩,fun j v f=>(o _ _ _).trans (g _ _ j v f (n rfl rfl rfl rfl rfl) rfl)⟩
 |3,h=>injection h with h;subst h;exact⟨⟨oV,ZM,ZM,mJ ZM ZM mQ ZM,r,⟨_,_,rfl⟩⟩,fun j v f=>(o _ _ _).trans (g _ _ j v f (n rfl rfl rfl rfl rfl) rfl)⟩
 |4,h=>injection h with h;subst h;exact⟨⟨oW,ZM,ZM,mJ ZM ZM mQ ZM,r,⟨_,_,rfl⟩⟩,fun j v f=>(o _ _ _).trans (g _ _ j v f (n rfl rfl rfl rfl rfl) rfl)⟩
 |5,h=>injection h with h;subst h;exact⟨⟨oX,ZM,ZM,mJ ZM ZM mQ ZM,r,⟨_,_,rfl⟩⟩,fun j v f=>(o _ _ _).trans (g _ _ j v f (n rfl rfl rfl rfl rfl) rfl)⟩
 |6,h=>injection h with h;subst h;exact⟨⟨oY,ZM,ZM,mJ ZM ZM mR ZM,s,⟨_,_,rfl⟩⟩,fun j v f=>(o _ _ _).trans (g _ _ j v f (n rfl rfl rfl rfl rfl) rfl)⟩
 |7,h=>injection h with h;subst h;exact⟨⟨oZ,ZM,ZM,mJ ZM ZM mQ ZM,r,⟨_,_,rfl⟩⟩,fun j v f=>(o _ _ _).trans (g _ _ j v f (n rfl rfl rfl rfl rfl) rfl)⟩
 |8,h=>injection h with h;subst h;exact⟨⟨o3,ZM,ZM,mJ ZM ZM mR ZM,s,⟨_,_,rfl⟩⟩,fun j v f=>(o _ _ _).trans (g _ _ j v f (n rfl rfl rfl rfl rfl) rfl)⟩
 |9,h=>injection h with h;subst h;exact⟨⟨o4,ZM,ZM,mJ ZM ZM mR ZM,s,⟨_,_,rfl⟩⟩,fun j v f=>(o _ _ _).trans (g _ _ j v f (n rfl rfl rfl rfl rfl) rfl)⟩
 |_+10,h=>exact absurd h (by simp[pf])
def nJ(k:Nat)(o:Bq)(sv:Vl):List Vl:=[nI nX k,nI nX o.kind,nG o.path,nG o.frm,sv]
theorem oF{w c a:Wl}{d k g:Nat}{o:Bq}{sv:Vl}(h:qza w)(b:ow c d k o)(j:nH d o=sv)(l:Chg w c [])(e:Chg c a [])(i:Ac a g (BJ o sv) 42):
  Cl prog 32 #[nS nN 0 0,nI nX k,nI nX 0,nS (nM ⟨g,0,nN⟩) 1 1] a (BU true a):=by
 obtain⟨ys,f,m⟩:=b.steps a e;rw[j]at f;exact h a (l.trans e) [o] _ _ k 0 (qzc i f m b.small) b.pos (oK b.no)
theorem oG{w d a:Wl}{e k g b:Nat}{o:Bq}{sv:Vl}(j:qza w)(c:ow d e k o)(m:nH e o=sv)(n:Chg w d [])(h:Chg d a [])(f:Ac a b (AI (Fv f1) IQ) 72)(l:Ac a g (BJ ol (nS (nM ⟨b,0,nN⟩) 1 1)++BJ o sv) 42):
  Cl prog 32 #[nS nN 0 0,nI nX k,nI nX 1,nS (nM ⟨g,0,nN⟩) 2 2] a (BU true a):=by
 obtain⟨ys,i,p⟩:=c.steps a h;rw[m]at i;exact j a (n.trans h) [ol,o] _ _ k 1 (nh l (ns f).1 (ns f).2 (mJ ZM ZM nW ZM) i p c.small) c.pos (og c.no)
def v14(k:Nat)(o:Bq)(sv:Vl)(S j:Nat)(y:Vl):Prop:=match j with
 |0=>y= nP (nM ⟨S,0,nN⟩)
 |1=>y= nI nX k
 |2=>y= nP (nM ⟨S,1,nN⟩)
 |3=>y= nA #[nI nX o.kind,nG o.path,nG o.frm,sv]
 |5=>y= .bool true
 |6=>y= .bool false
 |7=>y= .bool false
 |8=>y= nP (nM ⟨S,0,nN⟩)
 |9=>y= nI nX k
 |10=>y= nA #[nI nX 3,.bool false,nI .u64 4607182418800017408,nG ⟨#[]⟩,nI nX 0,nS nN 0 0]
 |13=>y= nP (nM ⟨S,1,nN⟩)
 |14=>y= nA #[nI nX o.kind,nG o.path,nG o.frm,sv]
 |16=>y= .bool true
 |17=>y= .bool false
 |18=>y= .bool false
 |_=>True
structure ou(w0:Wl)(S k:Nat)(o:Bq)(sv:Vl)(d:Nat->Bool)(f:Nat->Vl)(wx:Wl):Prop where
 chg:Chg w0 wx []
 blk:Ac wx S (nJ k o sv) 77
 vals:∀j,d j=true->v14 k o sv S j (f j)
 c4:d 4=true->∃g,f 4= nS (nM ⟨g,0,nN⟩) 1 1/\Ac wx g (BJ o sv) 42
 c11:d 11=true->∃g,f 11= nS (nM ⟨g,0,nN⟩) 1 1/\Ac wx g (AI (Fv f1) IQ) 72
 c12:d 12=true->∃g,f 12= nA #[nI nX 6,nG ⟨#[47,97,47,48]⟩,nG ⟨#[]⟩,nS (nM ⟨g,0,nN⟩) 1 1]/\Ac wx g (AI (Fv f1) IQ) 72
 c15:d 15=true->∃g h,f 15= nS (nM ⟨h,0,nN⟩) 2 2/\Ac wx g (AI (Fv f1) IQ) 72/\Ac wx h (BJ ol (nS (nM ⟨g,0,nN⟩) 1 1)++BJ o sv) 42
theorem ou.step{w0 r l:Wl}{S k j:Nat}{o:Bq}{sv:Vl}{d:Nat->Bool}{f:Nat->Vl}{y:Vl}(h:ou w0 S k o sv d f r)(s:Chg r l [])(A:v14 k o sv S j y)(w:j=4->∃g,y= nS (nM ⟨g,0,nN⟩) 1 1/\Ac l g (BJ o sv) 42)(t:j=11->∃g,y= nS (nM ⟨g,0,nN⟩) 1 1/\Ac l g (AI (Fv f1) IQ) 72)(u:j=12->∃g,y= nA #[nI nX 6,nG ⟨#[47,97,47,48]⟩,nG ⟨#[]⟩,nS (nM ⟨g,0,nN⟩) 1 1]/\Ac l g (AI (Fv f1) IQ) 72)(v:j=15->∃g h,y= nS (nM ⟨h,0,nN⟩) 2 2/\Ac l g (AI (Fv f1) IQ) 72/\Ac l h (BJ ol (nS (nM ⟨g,0,nN⟩) 1 1)++BJ o sv) 42):ou w0 S k o sv (BA d j) (Eb f j y) l:=by
 have n:∀{b:Nat} {cs:List Vl} {T:Ti},Ac r b cs T->Ac l b cs T:=fun x=>x.kept s
 have p:∀i,i≠j->BA d j i=true->d i=true:=fun i hi h=>by rwa[An d hi]at h
 refine⟨h.chg.trans s,n h.blk,fun q z=> ?_,fun m=> ?_,fun m=> ?_,fun m=> ?_,fun m=> ?_⟩
 .by_cases e:q=j
  .subst e;rw[Bf];exact A
  .rw[AA f y e];exact h.vals q (p q e z)
 .by_cases e:(4:Nat)=j
  .subst e;rw[Bf];exact w rfl
  .rw[AA f y e];obtain⟨g,a,b⟩:=h.c4 (p _ e m);exact⟨g,a,n b⟩
 .by_cases e:(11:Nat)=j
  .subst e;rw[Bf];exact t rfl
  .rw[AA f y e];obtain⟨g,a,b⟩:=h.c11 (p _ e m);exact⟨g,a,n b⟩
 .by_cases e:(12:Nat)=j
  .subst e;rw[Bf];exact u rfl
  .rw[AA f y e];obtain⟨g,a,b⟩:=h.c12 (p _ e m);exact⟨g,a,n b⟩
 .by_cases e:(15:Nat)=j
  .subst e;rw[Bf];exact v rfl
  .rw[AA f y e];obtain⟨g,q,a,b,c⟩:=h.c15 (p _ e m);exact⟨g,q,a,n b,n c⟩
theorem ou.plain{w0 b c:Wl}{S k j:Nat}{o:Bq}{sv:Vl}{d:Nat->Bool}{f:Nat->Vl}{y:Vl}(h:ou w0 S k o sv d f b)(g:Chg b c [])(i:v14 k o sv S j y)(a:j≠4/\j≠11/\j≠12/\j≠15):ou w0 S k o sv (BA d j) (Eb f j y) c:=
 h.step g i (fun e=>absurd e a.1) (fun e=>absurd e a.2.1) (fun e=>absurd e a.2.2.1) (fun e=>absurd e a.2.2.2)
def pj(a:Nat):List Vl:=BJ (mM 1 ⟨#[47,97,47,45]⟩ Dz mP) (nS (nM ⟨a,0,nN⟩) 1 1)++(BJ (mM 3 ⟨#[47,98]⟩ Dz mP) (nS (nM ⟨a,0,nN⟩) 1 1)++[])
def pk:List Vl:=BJ (mM 4 ⟨#[47,98,47,99]⟩ ⟨#[47,97]⟩ []) IQ++[]
def nU:List Bq:=[mM 3 ⟨#[47,98]⟩ Dz [Y7,Ve [kC]],mM 2 ⟨#[47,97,47,50]⟩ Dz []]
def nV:List Bq:=[mM 3 ⟨#[47,98,47,99]⟩ Dz [Y7],mM 1 ⟨#[47,97]⟩ Dz mV]
def om(l:List Bq)(b:Wl)(e:Ending)(w':Wl):Prop:=∃a c,e= nR (nT #[nS a l.length c,.nilIface])/\iI w' (nS a l.length c) l/\Chg b w' []
theorem nQ{d:Wl}{F:Nat->Prop}{j:Nat}{g:List Bq}{i:Vl}{xs:List Vl}{t:Tr}{u:List CW}{l:List Bq}(h:Yc d F j T0 g i xs)(o:BR T0 [] 0 g= .yes t u)(q:u.length<=65536)(n:u.map CW.toI=l):
  Cl prog 21 #[nP (nM ⟨j,0,nN⟩),i] d (om l d):=by
 have k:=Xn F j T0 g i xs d h;rw[o]at k;refine k.mono ?_;intro e w' b;unfold Jz at b
 dsimp only at b
 rw[Qs Zj,n]at b;obtain⟨r,ys,G,rfl,m,p⟩:=b;have f:=iI.ofR m.row m.ops.toIn;obtain⟨a,c,e,_⟩:=id f;rw[e]at f;exact⟨a,c,by rw[e],f,p⟩
theorem pd{a:Wl}{F:Nat->Prop}{e O d:Nat}(j:Br a)(h:10<=a.heap.size)(k:CG a F e T0)(i:∀b,F b->b<a.heap.size)(g:Ac a O (pj d) 42)(c:Ac a d (AI (Fv f5) IQ) 72):
  Cl prog 21 #[nP (nM ⟨e,0,nN⟩),nS (nM ⟨O,0,nN⟩) 2 2] a (om nU a):=
 nQ (show Yc a F e T0 [mM 1 ⟨#[47,97,47,45]⟩ Dz mP,mM 3 ⟨#[47,98]⟩ Dz mP] _ (pj d)from⟨j,h,k,i,LH,As.ofBlk g rfl,⟨_,_,_,rfl,(mL c).1,(mL c).2,_,_,[],rfl,(mL c).1,(mL c).2,rfl⟩,fun q f=>by
  simp only[Qh,List.not_mem_nil,or_false]at f
  rcases f with rfl|rfl
  .exact mJ ZM ZM mQ ZM
  .exact mJ ZM ZM mQ ZM,Zh⟩) (mX oQ oR) Zh rfl
theorem pe{a:Wl}{F:Nat->Prop}{c O:Nat}(g:Br a)(e:10<=a.heap.size)(h:CG a F c T0)(f:∀b,F b->b<a.heap.size)(d:Ac a O pk 42):
  Cl prog 21 #[nP (nM ⟨c,0,nN⟩),nS (nM ⟨O,0,nN⟩) 1 1] a (om nV a):=
 nQ (show Yc a F c T0 [mM 4 ⟨#[47,98,47,99]⟩ ⟨#[47,97]⟩ []] _ pk from⟨g,e,h,f,LH,As.ofBlk d rfl,⟨IQ,[],[],rfl,(mK a).1,(mK a).2,rfl⟩,fun q i=>by
  rw[List.mem_singleton.1 i]
  exact mJ ZM ZM mR ZM,Zh⟩) (nu pq) Zh rfl
def py(g:Nat):List Vl:=AI Y7 IQ++(AI (Ve [kC]) (nS (nM ⟨g,0,nN⟩) 1 1)++[])
def px(W:Nat):List Vl:=BJ (mM 3 ⟨#[47,98]⟩ Dz [Y7,Ve [kC]]) (nS (nM ⟨W,0,nN⟩) 2 2)++(BJ (mM 2 ⟨#[47,97,47,50]⟩ Dz []) IQ++[])
def pz(W a:Nat):List Vl:=BJ (mM 3 ⟨#[47,98,47,99]⟩ Dz [Y7]) (nS (nM ⟨W,0,nN⟩) 1 1)++(BJ (mM 1 ⟨#[47,97]⟩ Dz mV) (nS (nM ⟨a,0,nN⟩) 3 3)++[])
theorem pr{b:Wl}{a:Option Addr}{c g W O:Nat}(h:iI b (nS a nU.length c) nU)(d:Ac b g (Ad [kC]) 9)(e:Ac b W (py g) 72)(f:Ac b O (px W) 42):
  Cl prog 17 #[nS a nU.length c,nS (nM ⟨O,0,nN⟩) 2 2,.func (.func 18) #[] #[]] b (BU true b):=
 lj nU _ _ b h (iI.ofR (As.ofBlk f rfl) ⟨_,_,_,rfl,As.ofBlk e rfl,Az.cons (As.nil b 1) (Az.cons (As.ofBlk d rfl) rfl),IQ,[],[],rfl,(mK b).1,(mK b).2,rfl⟩) ZM ZM
theorem pt{b:Wl}{a:Option Addr}{c W O d:Nat}(h:iI b (nS a nV.length c) nV)(f:Ac b W (AI Y7 IQ) 72)(g:Ac b O (pz W d) 42)(e:Ac b d mT 72):
  Cl prog 17 #[nS a nV.length c,nS (nM ⟨O,0,nN⟩) 2 2,.func (.func 18) #[] #[]] b (BU true b):=
 lj nV _ _ b h (iI.ofR (As.ofBlk g rfl) ⟨_,_,_,rfl,As.ofBlk f rfl,Az.cons (As.nil b 1) rfl,_,_,[],rfl,(mW e).1,(mW e).2,rfl⟩) ZM ZM
theorem mS(b:Nat)(w:Wl):Cl prog 31 #[.float .f64 b] w fun e w'=>e= nR (nA #[nI nX 3,.bool false,nI .u64 b,nG ⟨#[]⟩,nI nX 0,nS nN 0 0])/\Chg w w' []:=Ph b w
theorem nL(w:Wl)(hL:Br w)(aj:10<=w.heap.size):Cl prog 8 #[] w (BU true w):=by
 have bO:=UD (∀y,Chg w y []->Cl prog 13 #[] y (BU true y)) fun y D=>Ko y (hL.kept D) (Q7 aj D.size)
 have ah:=UD (m8 w) fun y D aF so sw ys t u h hf hr hw=>nr aF so sw ys y (hL.kept D) (Q7 aj D.size) h hf hr hw
 have aH:=UD (qza w) fun y D aF so ys k i h hk hr=>nz aF so ys nN 0 0 y (hL.kept D) (Q7 aj D.size) h k i hk hr
 have HL:=hZ hL;have bL:=hZ aj;clear hL aj;go_enter func8,ntmps8
 go_upto_region 4 with(first
  |(go_at_call 13;refine(bO.o w cR).mono ?_;rintro e Y ⟨rfl,A⟩;have V:=UD (Chg w Y []) A;clear A)
  |(go_at_call 31;refine(mS _ _).mono ?_;rintro e x ⟨rfl,h⟩;have V:=UD (Chg w x []) (ct V.o h);clear h))
 obtain⟨p,al⟩:=Ue ((x.alloc (nC (AI (Fv f5) IQ).toArray 72)).alloc (nC (AI Y7 IQ).toArray 72))
 have HA:Hid (Chg w p []):=by rw[al];exact hZ ((V.o.alloc _).alloc _)
 have Q:Ac p x.heap.size (AI (Fv f5) IQ) 72:=by rw[al];exact(Ac.new _ _ _).alloc _
 have R:Ac p (x.heap.size+1) (AI Y7 IQ) 72:=by rw[al];exact BD _ _ _ _ _ rfl Zh
 obtain⟨r,ba⟩:=Ue x.heap.size
 obtain⟨N,hN⟩:=Ue (x.heap.size+1)
 change Code.wp _ _ _ _ ((x.alloc (nC (AI (Fv f5) IQ).toArray 72)).alloc (nC (AI Y7 IQ).toArray 72));rw[<-al];rw[<-hN]at R|-;rw[<-ba]at Q|-;have aI:=hZ Q;have aJ:=hZ R;have V:Hid (Chg w p []):=HA;have J:=UD (Chg p p []) cR;have HA:=V;clear al Q R ba hN
 go_upto_region 5 with((go_at_call 31;refine(mS _ _).mono ?_;rintro e x ⟨rfl,h⟩;have J:=UD (Chg p x []) (ct J.o h);have V:=UD (Chg w x []) (ct V.o h);clear h))
 obtain⟨wb,aw⟩:=Ue (x.alloc (nC mT.toArray 72))
 have h2:Chg p wb []:=by rw[aw];exact J.o.alloc _
 have U:Ac wb x.heap.size mT 72:=by rw[aw];exact Ac.new _ _ _
 obtain⟨z,bb⟩:=Ue x.heap.size
 change Code.wp _ _ _ _ (x.alloc (nC mT.toArray 72));rw[<-aw];rw[<-bb]at U|-;have aQ:=UD (ng w r N z wb) ⟨aI.o.kept h2,aJ.o.kept h2,U,HA.o.trans h2⟩;clear aw U bb h2 aI aJ J HA V;have J:=UD (Chg wb wb []) cR
 go_upto_region 7 with(first
  |(go_at_call 31;refine(mS _ _).mono ?_;rintro e x ⟨rfl,h⟩;have J:=UD (Chg wb x []) (ct J.o h);clear h)
  |(go_at_call 32;have HK:=UD (ng w r N z x) (aQ.o.kept J.o);refine(oA (G:=x.heap.size) ah.o (((HK.o.chg.alloc _).alloc _).alloc _) (((Ac.new x (Ad [kA,kB]) _).alloc _).alloc _) ((BD _ _ (pE x.heap.size) _ _ rfl Zh).alloc _) (BD _ _ _ _ _ rfl Zh) (((HK.o.kfi.alloc _).alloc _).alloc _)).mono ?_;rintro e wc ⟨rfl,h⟩;have aN:=UD (ng w r N z wc) ((HK.o.kept (((Chg.refl x []).alloc _).alloc _|>.alloc _)).kept h);clear h))
 refine wp_region_any Yb ?_;change wpAny _ _ _ _ _ _ _ (World.drew wc);have aO:=UD (ng w r N z wc.drew) (aN.o.kept ((Chg.refl wc []).drew));refine Dg _ (K7 w r N z) Yb ?_ ?_ _ ?_
 .intro ii op a p dd d C cN f cL c K m
  match ii,d with
  |0,d=>
   obtain rfl:=Q5 d;go_simp
   go_at_call 31;refine(mS _ p).mono ?_;rintro e Y ⟨rfl,A⟩;exact m _ _ Zh (c.plain A (by simp[qzf]) ZM)
  |1,d=>
   obtain rfl:=Q5 d;have h2:a.tmps.getD 2 undef= nP (nM ⟨N,0,nN⟩):=C.at 2 Yb;obtain⟨X,W,Z,z1,z2,z3,z4,z5⟩:=Ac.cells6 (show Ac p N [nI nX 1,.bool false,nI .u64 0,nG ⟨#[]⟩,nI nX 0,nS nN 0 0] 72 from c.kn.knu);go_simp
   exact m _ _ Zh (c.plain cR (by simp[qzf]) ZM)
  |2,d=>
   obtain rfl:=Q5 d;go_simp
   go_at_call 31;refine(mS _ p).mono ?_;rintro e Y ⟨rfl,A⟩;exact m _ _ Zh (c.plain A (by simp[qzf]) ZM)
  |3,d=>
   obtain rfl:=Q5 d;go_simp
   go_at_call 31;refine(mS _ p).mono ?_;rintro e Y ⟨rfl,A⟩;exact m _ _ Zh (c.plain A (by simp[qzf]) ZM)
  |4,d=>
   obtain rfl:=Q5 d;go_simp
   exact m _ _ Zh (c.plain cR (by simp[qzf]) ZM)
  |5,d=>
   obtain rfl:=Q5 d;go_simp
   exact m _ _ Zh (c.step ((Chg.refl p []).alloc _) trivial (fun _=>⟨_,rfl,Ac.new _ _ _⟩) (fun e=>by cases e) (fun e=>by cases e) (fun e=>by cases e) (fun e=>by cases e) (fun e=>by cases e))
  |6,d=>
   obtain rfl:=Q5 d;obtain⟨g,B,hb⟩:=c.c5 (f ⟨5,.data⟩ Zh rfl);have aB:a.tmps.getD 44 undef= nS (nM ⟨g,0,nN⟩) 2 2:=B;have az:=aB;rw[Qp]at az;go_simp
   exact m _ _ Zh (c.step cR trivial (fun e=>by cases e) (fun _=>⟨g,rfl,hb⟩) (fun e=>by cases e) (fun e=>by cases e) (fun e=>by cases e) (fun e=>by cases e))
  |7,d=>
   obtain rfl:=Q5 d;go_simp
   exact m _ _ Zh (c.step ((Chg.refl p []).alloc _) trivial (fun e=>by cases e) (fun e=>by cases e) (fun _=>⟨_,rfl,Ac.new _ _ _⟩) (fun e=>by cases e) (fun e=>by cases e) (fun e=>by cases e))
  |8,d=>
   obtain rfl:=Q5 d;obtain⟨g,B,hb⟩:=c.c7 (f ⟨7,.data⟩ Zh rfl);have aB:a.tmps.getD 46 undef= nS (nM ⟨g,0,nN⟩) 2 2:=B;have az:=aB;rw[Qp]at az;go_simp
   exact m _ _ Zh (c.step cR trivial (fun e=>by cases e) (fun e=>by cases e) (fun e=>by cases e) (fun _=>⟨g,rfl,hb⟩) (fun e=>by cases e) (fun e=>by cases e))
  |9,d=>
   obtain rfl:=Q5 d;have cA:a.tmps.getD 39 undef= nA #[nI nX 3,.bool false,nI .u64 4611686018427387904,nG ⟨#[]⟩,nI nX 0,nS nN 0 0]:=c.vals 0 (f ⟨0,.data⟩ Zh rfl);have ca:=cA;rw[Qp]at ca;have cB:a.tmps.getD 40 undef= nA #[nI nX 1,.bool false,nI .u64 0,nG ⟨#[]⟩,nI nX 0,nS nN 0 0]:=c.vals 1 (f ⟨1,.data⟩ Zh rfl);have cb:=cB;rw[Qp]at cb;have cC:a.tmps.getD 41 undef= nA #[nI nX 3,.bool false,nI .u64 4607182418800017408,nG ⟨#[]⟩,nI nX 0,nS nN 0 0]:=c.vals 2 (f ⟨2,.data⟩ Zh rfl);have cc:=cC;rw[Qp]at cc;have cD:a.tmps.getD 42 undef= nA #[nI nX 3,.bool false,nI .u64 4611686018427387904,nG ⟨#[]⟩,nI nX 0,nS nN 0 0]:=c.vals 3 (f ⟨3,.data⟩ Zh rfl);have cd:=cD;rw[Qp]at cd;have cE:a.tmps.getD 43 undef= nA #[nI nX 5,.bool false,nI .u64 0,nG ⟨#[]⟩,nI nX 2,nS nN 0 0]:=c.vals 4 (f ⟨4,.data⟩ Zh rfl);have ce:=cE;rw[Qp]at ce;obtain⟨K,cJ,bK⟩:=c.c6 (f ⟨6,.data⟩ Zh rfl);obtain⟨L,cK,bQ⟩:=c.c8 (f ⟨8,.data⟩ Zh rfl);have cF:a.tmps.getD 45 undef= nA #[nI nX 6,.bool false,nI .u64 0,nG ⟨#[]⟩,nI nX 0,nS (nM ⟨K,0,nN⟩) 2 2]:=cJ;have cf:=cF;rw[Qp]at cf;have cG:a.tmps.getD 47 undef= nA #[nI nX 6,.bool false,nI .u64 0,nG ⟨#[]⟩,nI nX 0,nS (nM ⟨L,0,nN⟩) 2 2]:=cK;have cg:=cG;rw[Qp]at cg;go_simp
   exact m _ _ Zh (c.step ((Chg.refl p []).alloc _) trivial (fun e=>by cases e) (fun e=>by cases e) (fun e=>by cases e) (fun e=>by cases e) (fun _=>⟨_,K,L,rfl,Ac.new _ (pm K L) _,bK.alloc _,bQ.alloc _⟩) (fun e=>by cases e))
  |10,d=>
   obtain rfl:=Q5 d;go_simp
   exact m _ _ Zh (c.plain cR (by simp[qzf]) ZM)
  |11,d=>
   obtain rfl:=Q5 d;go_simp
   exact m _ _ Zh (c.plain cR (by simp[qzf]) ZM)
  |12,d=>
   obtain rfl:=Q5 d;have cH:a.tmps.getD 49 undef= nA #[nI nX 4,nG ⟨#[47,98,47,120]⟩,nG ⟨#[47,97]⟩,nS nN 0 0]:=c.vals 10 (f ⟨10,.data⟩ Zh rfl);have ch:=cH;rw[Qp]at ch;have cI:a.tmps.getD 50 undef= nA #[nI nX 5,nG ⟨#[47,97]⟩,nG ⟨#[47,98,47,120,47,49]⟩,nS nN 0 0]:=c.vals 11 (f ⟨11,.data⟩ Zh rfl);have ci:=cI;rw[Qp]at ci;go_simp
   exact m _ _ Zh (c.step ((Chg.refl p []).alloc _) trivial (fun e=>by cases e) (fun e=>by cases e) (fun e=>by cases e) (fun e=>by cases e) (fun e=>by cases e) (fun _=>⟨_,rfl,Ac.new _ pg _⟩))
  |13,d=>
   obtain rfl:=Q5 d;obtain⟨g,K,L,B,M,b2,b3⟩:=c.c9 (f ⟨9,.data⟩ Zh rfl);obtain⟨O,hO,b4⟩:=c.c12 (f ⟨12,.data⟩ Zh rfl);have cQ:a.tmps.getD 48 undef= nS (nM ⟨g,0,nN⟩) 7 7:=B;have cS:a.tmps.getD 51 undef= nS (nM ⟨O,0,nN⟩) 2 2:=hO;go_simp
   go_at_call 32;refine(oB ah.o c.kn.chg b2 b3 M b4).mono ?_;rintro e Y ⟨rfl,A⟩;exact m _ _ Zh (c.plain A (by simp[qzf]) ZM)
  |14,d=>
   obtain rfl:=Q5 d;have cT:a.tmps.getD 52 undef= .bool true:=c.vals 13 (f ⟨13,.data⟩ Zh rfl);go_simp
   exact m _ _ Zh (c.plain cR (by simp[qzf]) ZM)
  |_+15,d=>exact absurd d Zh
 .intro a wR dd C hd c
  have aC:a.tmps.getD 53 undef= .bool false:=c.vals 14 (hd 14 ZM);have an:=hZ c.kn;clear c hd;have E:=C.form' [39,40,41,42,43,44,45,46,47,48,49,50,51,52,53] Yb;have ak:=C.defers;obtain⟨n,df⟩:=a;clear C
  dsimp only at E ak aC
  simp only[List.foldl_cons,List.foldl_nil]at E;rw[aC]at E;obtain⟨u39,bv⟩:=Ue (n.getD 39 undef)
  obtain⟨u40,bw⟩:=Ue (n.getD 40 undef)
  obtain⟨u41,bx⟩:=Ue (n.getD 41 undef)
  obtain⟨u42,bz⟩:=Ue (n.getD 42 undef)
  obtain⟨u43,bA⟩:=Ue (n.getD 43 undef)
  obtain⟨u44,bB⟩:=Ue (n.getD 44 undef)
  obtain⟨u45,bC⟩:=Ue (n.getD 45 undef)
  obtain⟨u46,bD⟩:=Ue (n.getD 46 undef)
  obtain⟨u47,bE⟩:=Ue (n.getD 47 undef)
  obtain⟨u48,bF⟩:=Ue (n.getD 48 undef)
  obtain⟨u49,bG⟩:=Ue (n.getD 49 undef)
  obtain⟨u50,bH⟩:=Ue (n.getD 50 undef)
  obtain⟨u51,bI⟩:=Ue (n.getD 51 undef)
  obtain⟨u52,bJ⟩:=Ue (n.getD 52 undef)
  rw[<-bv,<-bw,<-bx,<-bz,<-bA,<-bB,<-bC,<-bD,<-bE,<-bF,<-bG,<-bH,<-bI,<-bJ]at E;clear bv bw bx bz bA bB bC bD bE bF bG bH bI bJ aC;simp only[List.setIfInBounds_toArray,List.set_cons_zero,List.set_cons_succ]at E;subst E;subst ak;go_wp2_with fail
  refine(oC ah.o (an.o.chg.alloc _) (Ac.new _ (pA r) _) (an.o.kfi.alloc _)).mono ?_;rintro e w3 ⟨rfl,h3⟩;have aK:=UD (ng w r N z w3) ((an.o.kept ((Chg.refl wR []).alloc _)).kept h3);clear h3 an aO aN HK J aQ;go_wp2_with fail
  refine(mS _ _).mono ?_;rintro e w4 ⟨rfl,h4⟩;have ay:=UD (ng w r N z w4) (aK.o.kept h4);clear h4 aK;go_wp2_with fail
  refine(oD ah.o ((ay.o.chg.alloc _).alloc _) ((Ac.new w4 (AI (Fv f2) IQ) _).alloc _) (BD _ _ pC _ _ rfl Zh)).mono ?_;rintro e w5 ⟨rfl,P⟩;have ab:=UD (ng w r N z w5) ((ay.o.kept (((Chg.refl w4 []).alloc _).alloc _)).kept P);clear P ay;go_wp2_with fail
  refine(Tc w5).mono ?_;rintro e w6 ⟨g,xs,rfl,Q,R,U⟩;have K1:=hZ Q;have K2:=hZ R;have aL:=UD (ng w r N z w6) (ab.o.kept U);clear Q R U ab;go_wp2_with fail
  refine(mS _ _).mono ?_;rintro e w7 ⟨rfl,h7⟩;have am:=UD (ng w r N z w7) (aL.o.kept h7);have a6:=hZ (K1.o.kept h7);have a9:=hZ (K2.o.kept h7);clear h7 aL K1 K2;go_wp2_with fail
  refine(oE ah.o ((am.o.chg.alloc _).alloc _) (a6.o.kept (((Chg.refl w7 []).alloc _).alloc _)) (a9.o.kept (((Chg.refl w7 []).alloc _).alloc _)) ((Ac.new w7 (AI (Fv f1) IQ) _).alloc _) (BD _ _ (pD z _) _ _ rfl Zh) ((am.o.kli.alloc _).alloc _)).mono ?_;rintro e w8 ⟨rfl,h8⟩;have aM:=UD (ng w r N z w8) ((am.o.kept (((Chg.refl w7 []).alloc _).alloc _)).kept h8);clear h8 am a6 a9;go_wp2_with fail
  obtain⟨wt,ax⟩:=Ue (w8.alloc (nC (oi r).toArray 77))
  have HT:Hid (Ac wt w8.heap.size (oi r) 77):=by rw[ax];exact hZ (Ac.new _ _ _)
  have ai:Hid (ng w r N z wt):=by rw[ax];exact hZ (aM.o.kept ((Chg.refl w8 []).alloc _))
  obtain⟨T,hT⟩:=Ue w8.heap.size
  change Code.wp _ _ _ _ (w8.alloc (nC (oi r).toArray 77));rw[<-ax];rw[<-hT]at HT|-;clear ax hT aM;go_loopw [106] (fun aG wr=>∃i:Nat,i<=10/\aG= nI nX i/\Chg wt wr []) (fun aG _=>10-(intOf aG).toNat)
  case atStart=>exact⟨0,Zj,rfl,Chg.refl _ _⟩
  case round=>
   obtain⟨i,hi,rfl,B⟩:=hrel;have HG:=hZ B;clear B;by_cases cM:i<10
   .obtain⟨⟨k,o⟩,hp⟩:∃s,pf[i]? =nM s:=⟨_,Q9 (show i<pf.length from cM)⟩
    obtain⟨aE,bc⟩:=oL ai.o.kfi hp;have aW:=hZ aE;have aa:∀j v,(nI nX k::BJ o (nH r o):List Vl)[j]? =nM v->wr.cell? ⟨T,i*5+j,nN⟩=nM v:=fun j v hv=>HG.o.keeps (by rw[HT.o.cell];exact bc j v hv)
    obtain⟨I,q,aD⟩:=aE.form;have aV:=hZ aD;rw[aD]at aa;have c0:=aa 0 _ rfl;have c1:=aa 1 _ rfl;have c2:=aa 2 _ rfl;have c3:=aa 3 _ rfl;have c4:=aa 4 _ rfl;rw[Nat.add_zero]at c0;have lt:=World.block_lt_of_cell? wr _ c0;clear hp aE bc aa aD
    go_upto_region 14 with fail
    obtain⟨wS,av⟩:=Ue (wr.alloc (nC (nJ k o (nS I q q)).toArray 77))
    have aU:Hid (Ac wS wr.heap.size (nJ k o (nS I q q)) 77):=by rw[av];exact hZ (Ac.new _ _ _)
    have bN:Hid (Chg wt wS []):=by rw[av];exact hZ (HG.o.alloc _)
    obtain⟨S,hS⟩:=Ue wr.heap.size
    change Code.wp _ _ _ _ (wr.alloc (nC (nJ k o (nS I q q)).toArray 77));rw[<-av];rw[<-hS]at aU|-;clear av hS HG c0 c1 c2 c3 c4 lt;refine wp_region_any Yb ?_;change wpAny _ _ _ _ _ _ _ (World.drew wS);refine Dg _ (ou wt S k o (nS I q q)) Yb ?_ ?_ _ ?_
    .intro ii op a p dd d C cN f cL c K m
     match ii,d with
     |0,d=>
      obtain rfl:=Q5 d;have P:a.tmps.getD 5 undef= nP (nM ⟨S,0,nN⟩):=C.at 5 Yb;go_simp
      exact m _ _ Zh (c.plain cR (by simp[v14]) ZM)
     |1,d=>
      obtain rfl:=Q5 d;have cj:a.tmps.getD 110 undef= nP (nM ⟨S,0,nN⟩):=c.vals 0 (f ⟨0,.data⟩ Zh rfl);have bR:=cj;rw[Qp]at bR;obtain⟨X,W,Z,z1,z2,z3,z4⟩:=GA (show Ac p S [nI nX k,nI nX o.kind,nG o.path,nG o.frm,nS I q q] 77 from c.blk);go_simp
      exact m _ _ Zh (c.plain cR (by simp[v14]) ZM)
     |2,d=>
      obtain rfl:=Q5 d;have P:a.tmps.getD 5 undef= nP (nM ⟨S,0,nN⟩):=C.at 5 Yb;go_simp
      exact m _ _ Zh (c.plain cR (by simp[v14]) ZM)
     |3,d=>
      obtain rfl:=Q5 d;have cl:a.tmps.getD 112 undef= nP (nM ⟨S,1,nN⟩):=c.vals 2 (f ⟨2,.data⟩ Zh rfl);have bT:=cl;rw[Qp]at bT;obtain⟨X,W,Z,z1,z2,z3,z4⟩:=GA (show Ac p S [nI nX k,nI nX o.kind,nG o.path,nG o.frm,nS I q q] 77 from c.blk);go_simp
      exact m _ _ Zh (c.plain cR (by simp[v14]) ZM)
     |4,d=>
      obtain rfl:=Q5 d;have cm:a.tmps.getD 113 undef= nA #[nI nX o.kind,nG o.path,nG o.frm,nS I q q]:=c.vals 3 (f ⟨3,.data⟩ Zh rfl);have bU:=cm;rw[Qp]at bU;go_simp
      exact m _ _ Zh (c.step ((Chg.refl p []).alloc _) trivial (fun _=>⟨_,rfl,Ac.new _ (BJ o (nS I q q)) _⟩) (fun e=>by cases e) (fun e=>by cases e) (fun e=>by cases e))
     |5,d=>
      obtain rfl:=Q5 d;have ck:a.tmps.getD 111 undef= nI nX k:=c.vals 1 (f ⟨1,.data⟩ Zh rfl);have bS:=ck;rw[Qp]at bS;obtain⟨g,B,M⟩:=c.c4 (f ⟨4,.data⟩ Zh rfl);have cO:a.tmps.getD 114 undef= nS (nM ⟨g,0,nN⟩) 1 1:=B;go_simp
      go_at_call 32;refine(oF aH.o aW.o aV.o ai.o.chg c.chg M).mono ?_;rintro e Y ⟨rfl,A⟩;exact m _ _ Zh (c.plain A (by simp[v14]) ZM)
     |6,d=>
      obtain rfl:=Q5 d;have cn:a.tmps.getD 115 undef= .bool true:=c.vals 5 (f ⟨5,.data⟩ Zh rfl);have bV:=cn;rw[Qp]at bV;go_simp
      exact m _ _ Zh (c.plain cR (by simp[v14]) ZM)
     |7,d=>
      obtain rfl:=Q5 d;have co:a.tmps.getD 116 undef= .bool false:=c.vals 6 (f ⟨6,.data⟩ Zh rfl);have bW:=co;rw[Qp]at bW;go_simp
      exact m _ _ Zh (c.plain cR (by simp[v14]) ZM)
     |8,d=>
      obtain rfl:=Q5 d;have P:a.tmps.getD 5 undef= nP (nM ⟨S,0,nN⟩):=C.at 5 Yb;rw[Qr (Cw rfl ZN (c.vals 7 (f ⟨7,.guard⟩ Zh rfl)))];go_simp
      exact m _ _ Zh (c.plain cR (by simp[v14]) ZM)
     |9,d=>
      obtain rfl:=Q5 d;have cq:a.tmps.getD 118 undef= nP (nM ⟨S,0,nN⟩):=c.vals 8 (f ⟨8,.data⟩ Zh rfl);have bY:=cq;rw[Qp]at bY;obtain⟨X,W,Z,z1,z2,z3,z4⟩:=GA (show Ac p S [nI nX k,nI nX o.kind,nG o.path,nG o.frm,nS I q q] 77 from c.blk);rw[Qr (Cw rfl ZN (c.vals 7 (f ⟨7,.guard⟩ Zh rfl)))];go_simp
      exact m _ _ Zh (c.plain cR (by simp[v14]) ZM)
     |10,d=>
      obtain rfl:=Q5 d;rw[Qr (Cw rfl ZN (c.vals 7 (f ⟨7,.guard⟩ Zh rfl)))];go_simp
      go_at_call 31;refine(mS _ p).mono ?_;rintro e Y ⟨rfl,A⟩;exact m _ _ Zh (c.plain A (by simp[v14]) ZM)
     |11,d=>
      obtain rfl:=Q5 d;have cs:a.tmps.getD 120 undef= nA #[nI nX 3,.bool false,nI .u64 4607182418800017408,nG ⟨#[]⟩,nI nX 0,nS nN 0 0]:=c.vals 10 (f ⟨10,.data⟩ Zh rfl);have b0:=cs;rw[Qp]at b0;rw[Qr (Cw rfl ZN (c.vals 7 (f ⟨7,.guard⟩ Zh rfl)))];go_simp
      exact m _ _ Zh (c.step ((Chg.refl p []).alloc _) trivial (fun e=>by cases e) (fun _=>⟨_,rfl,Ac.new _ (AI (Fv f1) IQ) _⟩) (fun e=>by cases e) (fun e=>by cases e))
     |12,d=>
      obtain rfl:=Q5 d;obtain⟨g,B,M⟩:=c.c11 (f ⟨11,.data⟩ Zh rfl);have cu:a.tmps.getD 121 undef= nS (nM ⟨g,0,nN⟩) 1 1:=B;have b1:=cu;rw[Qp]at b1;rw[Qr (Cw rfl ZN (c.vals 7 (f ⟨7,.guard⟩ Zh rfl)))];go_simp
      exact m _ _ Zh (c.step cR trivial (fun e=>by cases e) (fun e=>by cases e) (fun _=>⟨g,rfl,M⟩) (fun e=>by cases e))
     |13,d=>
      obtain rfl:=Q5 d;have P:a.tmps.getD 5 undef= nP (nM ⟨S,0,nN⟩):=C.at 5 Yb;rw[Qr (Cw rfl ZN (c.vals 7 (f ⟨7,.guard⟩ Zh rfl)))];go_simp
      exact m _ _ Zh (c.plain cR (by simp[v14]) ZM)
     |14,d=>
      obtain rfl:=Q5 d;have cw:a.tmps.getD 123 undef= nP (nM ⟨S,1,nN⟩):=c.vals 13 (f ⟨13,.data⟩ Zh rfl);have b6:=cw;rw[Qp]at b6;obtain⟨X,W,Z,z1,z2,z3,z4⟩:=GA (show Ac p S [nI nX k,nI nX o.kind,nG o.path,nG o.frm,nS I q q] 77 from c.blk);rw[Qr (Cw rfl ZN (c.vals 7 (f ⟨7,.guard⟩ Zh rfl)))];go_simp
      exact m _ _ Zh (c.plain cR (by simp[v14]) ZM)
     |15,d=>
      obtain rfl:=Q5 d;have cx:a.tmps.getD 124 undef= nA #[nI nX o.kind,nG o.path,nG o.frm,nS I q q]:=c.vals 14 (f ⟨14,.data⟩ Zh rfl);have b7:=cx;rw[Qp]at b7;obtain⟨g,B,M⟩:=c.c12 (f ⟨12,.data⟩ Zh rfl);have cv:a.tmps.getD 122 undef= nA #[nI nX 6,nG ⟨#[47,97,47,48]⟩,nG ⟨#[]⟩,nS (nM ⟨g,0,nN⟩) 1 1]:=B;have b5:=cv;rw[Qp]at b5;rw[Qr (Cw rfl ZN (c.vals 7 (f ⟨7,.guard⟩ Zh rfl)))];go_simp
      exact m _ _ Zh (c.step ((Chg.refl p []).alloc _) trivial (fun e=>by cases e) (fun e=>by cases e) (fun e=>by cases e) (fun _=>⟨g,_,rfl,M.alloc _,Ac.new _ (BJ ol (nS (nM ⟨g,0,nN⟩) 1 1)++BJ o (nS I q q)) _⟩))
     |16,d=>
      obtain rfl:=Q5 d;have cr:a.tmps.getD 119 undef= nI nX k:=c.vals 9 (f ⟨9,.data⟩ Zh rfl);have bZ:=cr;rw[Qp]at bZ;obtain⟨g,h,B,M,b2⟩:=c.c15 (f ⟨15,.data⟩ Zh rfl);have cP:a.tmps.getD 125 undef= nS (nM ⟨h,0,nN⟩) 2 2:=B;rw[Qr (Cw rfl ZN (c.vals 7 (f ⟨7,.guard⟩ Zh rfl)))];go_simp
      go_at_call 32;refine(oG aH.o aW.o aV.o ai.o.chg c.chg M b2).mono ?_;rintro e Y ⟨rfl,A⟩;exact m _ _ Zh (c.plain A (by simp[v14]) ZM)
     |17,d=>
      obtain rfl:=Q5 d;have cy:a.tmps.getD 126 undef= .bool true:=c.vals 16 (f ⟨16,.data⟩ Zh rfl);have b8:=cy;rw[Qp]at b8;rw[Qr (Cw rfl ZN (c.vals 7 (f ⟨7,.guard⟩ Zh rfl)))];go_simp
      exact m _ _ Zh (c.plain cR (by simp[v14]) ZM)
     |18,d=>
      obtain rfl:=Q5 d;have cp:a.tmps.getD 117 undef= .bool false:=c.vals 7 (f ⟨7,.data⟩ Zh rfl);have bX:=cp;rw[Qp]at bX;have cz:a.tmps.getD 127 undef= .bool false:=c.vals 17 (f ⟨17,.data⟩ Zh rfl);have b9:=cz;rw[Qp]at b9;go_simp
      exact m _ _ Zh (c.plain cR (by simp[v14]) ZM)
     |_+19,d=>exact absurd d Zh
    .intro a wR dd C hd c
     have aA:a.tmps.getD 128 undef= .bool false:=c.vals 18 (hd 18 ZM);have bM:=hZ c.chg;clear c hd;have E:=C.form' [110,111,112,113,114,115,116,117,118,119,120,121,122,123,124,125,126,127,128] Yb;have ak:=C.defers;obtain⟨n,df⟩:=a;clear C
     dsimp only at E ak aA
     simp only[List.foldl_cons,List.foldl_nil]at E;rw[aA]at E;obtain⟨u110,bd⟩:=Ue (n.getD 110 undef)
     obtain⟨u111,be⟩:=Ue (n.getD 111 undef)
     obtain⟨u112,bf⟩:=Ue (n.getD 112 undef)
     obtain⟨u113,bg⟩:=Ue (n.getD 113 undef)
     obtain⟨u114,bh⟩:=Ue (n.getD 114 undef)
     obtain⟨u115,bi⟩:=Ue (n.getD 115 undef)
     obtain⟨u116,bj⟩:=Ue (n.getD 116 undef)
     obtain⟨u117,bk⟩:=Ue (n.getD 117 undef)
     obtain⟨u118,bl⟩:=Ue (n.getD 118 undef)
     obtain⟨u119,bm⟩:=Ue (n.getD 119 undef)
     obtain⟨u120,bn⟩:=Ue (n.getD 120 undef)
     obtain⟨u121,bo⟩:=Ue (n.getD 121 undef)
     obtain⟨u122,bp⟩:=Ue (n.getD 122 undef)
     obtain⟨u123,bq⟩:=Ue (n.getD 123 undef)
     obtain⟨u124,br⟩:=Ue (n.getD 124 undef)
     obtain⟨u125,bs⟩:=Ue (n.getD 125 undef)
     obtain⟨u126,bt⟩:=Ue (n.getD 126 undef)
     obtain⟨u127,bu⟩:=Ue (n.getD 127 undef)
     rw[<-bd,<-be,<-bf,<-bg,<-bh,<-bi,<-bj,<-bk,<-bl,<-bm,<-bn,<-bo,<-bp,<-bq,<-br,<-bs,<-bt,<-bu]at E;clear bd be bf bg bh bi bj bk bl bm bn bo bp bq br bs bt bu aA;simp only[List.setIfInBounds_toArray,List.set_cons_zero,List.set_cons_succ]at E;subst E;subst ak;go_wp2_with fail
     go_roundw
     case rel=>exact⟨i+1,Zj,by go_num,bM.o⟩
     case measure=>simp[intOf];omega
    .exact⟨bN.o.drew,aU.o.kept (Chg.refl wS []).drew,(fun _ e=>by cases e),(fun e=>by cases e),(fun e=>by cases e),(fun e=>by cases e),(fun e=>by cases e)⟩
   .have aP:=UD (ng w r N z wr) (ai.o.kept HG.o)
    clear HG ai HT;clear hi;go_wp2_with fail
    refine(Tc wr).mono ?_;rintro e x1 ⟨g,xs,rfl,Q,R,U⟩;have K1:=hZ Q;have K2:=hZ R;have aX:=UD (ng w r N z x1) (aP.o.kept U);clear Q R U aP;go_wp2_with fail
    refine(Wk LH PA K1.o K2.o).mono ?_;rintro e H ⟨F,tb,rfl,q1,q2,q3,_⟩;have ap:=UD (CG H F tb T0/\∀b,F b->b<H.heap.size) ⟨q1,q2⟩;have ae:=UD (ng w r N z H) (aX.o.kept q3);clear q1 q2 q3 K1 K2 aX;have ad:=UD (∀y,Chg H y []->CG y F tb T0/\∀b,F b->b<y.heap.size) fun y D=>⟨ap.o.1.kept D ap.o.2,fun b hb=>Q6 (ap.o.2 b hb) D.size⟩
    have ao:=UD (∀y,Chg H y []->Br y/\10<=y.heap.size) fun y D=>⟨HL.o.kept (ae.o.chg.trans D),Q7 bL.o (ae.o.chg.trans D).size⟩
    clear ap;go_wp2_with fail
    have af:Chg H (H.alloc (nC (pj r).toArray 42)) []:=(Chg.refl H []).alloc _;refine(pd (ao.o _ af).1 (ao.o _ af).2 (ad.o _ af).1 (ad.o _ af).2 (Ac.new H (pj r) _) (ae.o.kfi.alloc _)).mono ?_;rintro e x3 ⟨a7,n7,rfl,r1,r2⟩;have aY:=UD (Chg H x3 []) (af.trans r2);have aR:=hZ r1;clear af r1 r2;go_wp2_with fail
    have ag:Chg H (x3.alloc (nC pk.toArray 42)) []:=aY.o.alloc _;refine(pe (ao.o _ ag).1 (ao.o _ ag).2 (ad.o _ ag).1 (ad.o _ ag).2 (Ac.new x3 pk _)).mono ?_;rintro e x4 ⟨a8,n8,rfl,r1,r2⟩;have aq:=UD (Chg H x4 []) (ag.trans r2);have aT:=hZ r1;have aS:=hZ (aR.o.kept (((Chg.refl x3 []).alloc _).trans r2));clear ag r1 r2 aY aR;obtain⟨X,W,Z,z1,z2,z3,z4,z5⟩:=Ac.cells6 (show Ac x4 N [nI nX 1,.bool false,nI .u64 0,nG ⟨#[]⟩,nI nX 0,nS nN 0 0] 72 from(ae.o.kept aq.o).knu);go_wp2_with fail
    clear X W Z z1 z2 z3 z4 z5;refine(pr (aS.o.kept ((((Chg.refl x4 []).alloc _).alloc _).alloc _)) (((Ac.new x4 (Ad [kC]) _).alloc _).alloc _) ((BD _ _ (py x4.heap.size) _ _ rfl Zh).alloc _) (BD _ _ (px _) _ _ rfl Zh)).mono ?_;rintro e x5 ⟨rfl,P⟩;have ar:=UD (Chg x4 x5 []) (((((Chg.refl x4 []).alloc _).alloc _).alloc _).trans P);clear P aS;have ab:=UD (ng w r N z x5) ((ae.o.kept aq.o).kept ar.o);obtain⟨X,W,Z,z1,z2,z3,z4,z5⟩:=Ac.cells6 (show Ac x5 N [nI nX 1,.bool false,nI .u64 0,nG ⟨#[]⟩,nI nX 0,nS nN 0 0] 72 from ab.o.knu);go_wp2_with fail
    clear X W Z z1 z2 z3 z4 z5;refine(pt ((aT.o.kept ar.o).kept (((Chg.refl x5 []).alloc _).alloc _)) ((Ac.new x5 (AI Y7 IQ) _).alloc _) (BD _ _ (pz _ z) _ _ rfl Zh) ((ab.o.kli.alloc _).alloc _)).mono ?_;rintro e x6 ⟨rfl,h6⟩;have aZ:=UD (Chg H x6 []) (aq.o.trans (ar.o.trans ((((Chg.refl x5 []).alloc _).alloc _).trans h6)));clear h6 aq ar aT ab
    go_wp2_with(first
     |(go_at_call 15;refine(qzk _).mono ?_;rintro e x7 ⟨rfl,h⟩;have a0:=hZ (aZ.o.trans h);clear h)
     |(go_at_call 21;refine(nt _).mono ?_;rintro e x8 ⟨rfl,h⟩;have a1:=hZ (a0.o.trans h);clear h))
    refine(qzl _).mono ?_;rintro e x9 ⟨rfl,h⟩;have au:=hZ (a1.o.trans h);clear h aZ a0 a1;go_wp2_with fail
    refine(lp T0 F tb x9 (ad.o _ au.o).1 (ad.o _ au.o).2 LH (fun l h=>by cases h)).mono ?_;rintro e y0 ⟨rfl,h⟩;have a2:=hZ (au.o.trans h);clear h au;unfold eT;go_wp2_with fail
    refine(iR 1 (-1) ZM ZM _).mono ?_;rintro e y1 ⟨rfl,h⟩;have a3:=hZ (a2.o.trans h);clear h a2;go_wp2_with fail
    refine(iR 1 (-1) ZM ZM _).mono ?_;rintro e y2 ⟨rfl,h⟩;have a4:=hZ (a3.o.trans h);clear h a3;go_wp2_with fail
    refine(iR 1 (-1) ZM ZM _).mono ?_;rintro e y3 ⟨rfl,h⟩;have a5:=hZ (a4.o.trans h);clear h a4;go_wp2_with fail
    refine(jL 5 ZM Dz _).mono ?_;rintro e y4 ⟨rfl,h⟩;have bP:=hZ (a5.o.trans h);clear h a5;go_wp2_with fail
    go_ret
    exact⟨rfl,ae.o.chg.trans bP.o⟩
 .exact⟨aO.o,(fun _ e=>by cases e),(fun e=>by cases e),(fun e=>by cases e),(fun e=>by cases e),(fun e=>by cases e),(fun e=>by cases e),(fun e=>by cases e)⟩
end
end Go.Proofs.YtkfnkppdhcaeoaaGreatDoor

/- Part 19 of the proof of patchFresh_card. -/
import Derived.Test.YtamgbmcchhmojaaGreatDoorM18
set_option maxRecDepth 100000
set_option maxHeartbeats 32000000
set_option linter.all false
namespace Go.Proofs.YtamgbmcchhmojaaGreatDoor
open Go renaming Calls->Cl,TypeId->Ti,Value->Vl,World->Wl
open Go.Value renaming agg->nA,iface->nF,int->nI,pointer->nP,slice->nS,string->nG,tuple->nT
open Go.IntKind renaming i64->nX
open Go.Ending renaming returned->nR
open Go.Obj renaming cells->nC
open Option renaming none->nN,some->nM
section
open Go Go.Shelf Go.RowKit Go.Lib Tree Ptr
variable{w:Wl}
theorem NS{W:Nat}{g:Vl}{b:List Nat}{t x:Tr}{ts:List BY}{w':Wl}{e:Ending}(a:List CW)(h:Cq W g b t x ts w e w'):
  (∃n,Ga t ts x a= .no n/\e=By n/\Chg w w' b)\/(∃f,Ga t ts x a= .yes f (Dd t ts::a)/\ET W g b f (Dd t ts).toI w e w'):=by
 unfold Cq at h;unfold Ga;by_cases c:EN t ts≠0
 .rw[Qr c]at h|-;exact .inl ⟨_,rfl,h.1,h.2⟩
 .rw[Qs c]at h|-;unfold Kj;by_cases d:(Ag (At t ts x)).within=true
  .rw[Qr d]at h|-;exact .inr ⟨_,rfl,h⟩
  .rw[Qs d]at h|-;exact .inl ⟨_,rfl,h.1,h.2⟩
theorem I3{P:Program}{o:Oper}{a:Act}{Q:Exit->Act->Wl->Prop}{K:Act->Wl->Prop}(r:Operand)(b:String)(m:Array Ti)(j:o.op= .call {callee:= .invoke r b,args:=#[],argTypes:=m})(v:Vl)(l:a.eval r=v)(f:FuncId)(args:Array Vl)(i:(callMethod v b #[]).run P w= .ok (.enter f args) w)(R:Ending->Wl->Prop)(d:Cl P f args w R)(c:∀e w2,R e w2->∃u,e= nR u/\K (a.put o.dst u) w2):Oper.wp P o a w K Q:=by
 unfold Oper.wp
 have g:(execOp a.eval o).run P w= .ok (.enter f args) w:=by
  simp[execOp,j,resolve,invoke,l,i]
 rw[g];refine d.mono fun e w2 h=> ?_;obtain⟨u,rfl,k⟩:=c e w2 h;exact k
structure IL(w4:Wl)(V:Nat->Vl->Prop)(P7 P8 P9:Vl->Wl->Prop)(d:Nat->Bool)(f:Nat->Vl)(w:Wl):Prop where
 early:d 8=false->Chg w4 w []
 vals:∀j,j<7->d j=true->V j (f j)
 o7:d 7=true->d 6=true
 o8:d 8=true->∀j,j<8->d j=true
 o9:d 9=true->d 8=true
 o10:d 10=true->d 9=true
 p7:d 7=true->d 8=false->P7 (f 7) w
 p8:d 8=true->d 9=false->P8 (f 8) w
 p9:d 9=true->P9 (f 9) w
 p10:d 10=true->f 10=f 9
section
variable{v:Vl}
variable {w4:Wl} {V:Nat->Vl->Prop} {P7 P8 P9:Vl->Wl->Prop} {d:Nat->Bool} {f:Nat->Vl} {w w':Wl}
theorem IL.read{j:Nat}(h:IL w4 V P7 P8 P9 d f w)(r:j<7)(g:d j=false)(p:V j v)(o:Chg w w' [])(q:w'=w\/j=6):IL w4 V P7 P8 P9 (BA d j) (Eb f j v) w':=by
 have n:∀k,k≠j->BA d j k=d k:=fun k a=>An d a;have m:∀k,k≠j->Eb f j v k=f k:=fun k a=>AA f v a
 have b:d 8=false:=by cases e:d 8 with
  |false=>rfl
  |true=>rw[h.o8 e j Zj]at g;cases g
 have c:d 9=false:=by cases e:d 9 with
  |false=>rfl
  |true=>rw[h.o9 e]at b;cases b
 have i:d 10=false:=by cases e:d 10 with
  |false=>rfl
  |true=>rw[h.o10 e]at c;cases c
 have up:∀k,d k=true->BA d j k=true:=fun k a=>by unfold BA;split;rfl;exact a
 refine⟨?_, ?_, ?_, ?_, ?_, ?_, ?_, ?_, ?_, ?_⟩<;>try simp only[n 7 Zj,n 8 Zj,n 9 Zj,n 10 Zj,m 7 Zj,m 8 Zj,m 9 Zj,m 10 Zj]
 .exact fun _=>(h.early b).trans o
 .intro k a l;by_cases e:k=j
  .subst e;rw[Bf];exact p
  .rw[m k e];rw[n k e]at l;exact h.vals k a l
 .exact fun e=>up 6 (h.o7 e)
 .rw[b];intro e;cases e
 .rw[c];intro e;cases e
 .rw[i];intro e;cases e
 .intro e _;rcases q with rfl|rfl
  .exact h.p7 e b
  .rw[h.o7 e]at g;cases g
 .rw[b];intro e;cases e
 .rw[c];intro e;cases e
 .rw[i];intro e;cases e
theorem IL.made(h:IL w4 V P7 P8 P9 d f w)(i:d 7=false)(l:d 6=true)(p:P7 v w')(o:Chg w w' []):IL w4 V P7 P8 P9 (BA d 7) (Eb f 7 v) w':=by
 have n:∀k,k≠7->BA d 7 k=d k:=fun k b=>An d b;have m:∀k,k≠7->Eb f 7 v k=f k:=fun k b=>AA f v b
 have a:d 8=false:=by cases e:d 8 with
  |false=>rfl
  |true=>rw[h.o8 e 7 Zj]at i;cases i
 have c:d 9=false:=by cases e:d 9 with
  |false=>rfl
  |true=>rw[h.o9 e]at a;cases a
 have g:d 10=false:=by cases e:d 10 with
  |false=>rfl
  |true=>rw[h.o10 e]at c;cases c
 refine⟨?_, ?_, ?_, ?_, ?_, ?_, ?_, ?_, ?_, ?_⟩<;>try simp only[n 6 Zj,n 8 Zj,n 9 Zj,n 10 Zj,Bf,m 8 Zj,m 9 Zj,m 10 Zj]
 .exact fun _=>(h.early a).trans o
 .intro k b j;rw[m k Zj];rw[n k Zj]at j;exact h.vals k b j
 .exact fun _=>l
 .rw[a];intro e;cases e
 .rw[c];intro e;cases e
 .rw[g];intro e;cases e
 .exact fun _ _=>p
 .rw[a];intro e;cases e
 .rw[c];intro e;cases e
 .rw[g];intro e;cases e
theorem z0k{p:Prop}(h:p:=by intro k a i;rw[m k Zj];rw[n k Zj]at i;exact h.vals k a i):p:=h
theorem IL.added(h:IL w4 V P7 P8 P9 d f w)(g:d 8=false)(l:∀j,j<8->d j=true)(p:P8 v w'):IL w4 V P7 P8 P9 (BA d 8) (Eb f 8 v) w':=by
 have n:∀k,k≠8->BA d 8 k=d k:=fun k a=>An d a;have m:∀k,k≠8->Eb f 8 v k=f k:=fun k a=>AA f v a
 have b:d 9=false:=by cases e:d 9 with
  |false=>rfl
  |true=>rw[h.o9 e]at g;cases g
 have c:d 10=false:=by cases e:d 10 with
  |false=>rfl
  |true=>rw[h.o10 e]at b;cases b
 refine⟨?_, ?_, ?_, ?_, ?_, ?_, ?_, ?_, ?_, ?_⟩<;>try simp only[n 6 Zj,n 7 Zj,n 9 Zj,n 10 Zj,Bf,BG,m 7 Zj,m 9 Zj,m 10 Zj]
 .intro e;cases e
 .exact z0k
 .exact h.o7
 .intro _ j o;rw[n j Zj];exact l j o
 .rw[b];intro e;cases e
 .rw[c];intro e;cases e
 .intro _ e;cases e
 .exact fun _ _=>p
 .rw[b];intro e;cases e
 .rw[c];intro e;cases e
theorem IL.built(h:IL w4 V P7 P8 P9 d f w)(g:d 9=false)(b:d 8=true)(o:P9 v w'):IL w4 V P7 P8 P9 (BA d 9) (Eb f 9 v) w':=by
 have n:∀k,k≠9->BA d 9 k=d k:=fun k a=>An d a;have m:∀k,k≠9->Eb f 9 v k=f k:=fun k a=>AA f v a
 have c:d 10=false:=by cases e:d 10 with
  |false=>rfl
  |true=>rw[h.o10 e]at g;cases g
 refine⟨?_, ?_, ?_, ?_, ?_, ?_, ?_, ?_, ?_, ?_⟩<;>try simp only[n 6 Zj,n 7 Zj,n 8 Zj,n 10 Zj,Bf,BG,m 7 Zj,m 8 Zj,m 10 Zj]
 .rw[b];intro e;cases e
 .exact z0k
 .exact h.o7
 .intro e j l;rw[n j Zj];exact h.o8 e j l
 .exact fun _=>b
 .rw[c];intro e;cases e
 .rw[b];intro _ e;cases e
 .intro _ e;cases e
 .exact fun _=>o
 .rw[c];intro e;cases e
theorem IL.end_(h:IL w4 V P7 P8 P9 d f w)(b:d 9=true):IL w4 V P7 P8 P9 (BA d 10) (Eb f 10 (f 9)) w:=by
 have n:∀k,k≠10->BA d 10 k=d k:=fun k a=>An d a;have m:∀k,k≠10->Eb f 10 (f 9) k=f k:=fun k a=>AA f _ a;have i:=h.o9 b;refine⟨?_, ?_, ?_, ?_, ?_, ?_, ?_, ?_, ?_, ?_⟩<;>try simp only[n 6 Zj,n 7 Zj,n 8 Zj,n 9 Zj,Bf,BG,m 7 Zj,m 8 Zj,m 9 Zj]
 .exact h.early
 .intro k a c;rw[m k Zj];rw[n k Zj]at c;exact h.vals k a c
 .exact h.o7
 .intro e j g;rw[n j Zj];exact h.o8 e j g
 .exact h.o9
 .exact fun _=>b
 .exact h.p7
 .exact h.p8
 .exact h.p9
 .exact fun _=>trivial
end
end
section
open _root_.Go.Proofs.Tryz
open Go Go.Shelf Go.RowKit Go.Lib Tree Ptr
theorem Mg(s p:BY)(w:Wl):
  Cl prog 139 #[nG s,nG p] w fun e w'=>e= nR (.bool (Lib.hasPrefix s.data.toList p.data.toList))/\w'=w:=by
 rw[<-Lib.hasPrefix_of_take,<-Lib.size_eq,<-Lib.size_eq];go_enter func139,ntmps139;go_wp2
 .rename_i h;go_ret;refine⟨?_,rfl⟩;show Ending.returned (Vl.bool ((s.extract 0 p.size).toList==p.toList))=_
  rw[Lib.extract_toList,Lib.toList_data];simp[h]
 .rename_i h;go_ret;refine⟨?_,rfl⟩;show Ending.returned (Vl.bool false)=_
  simp[h]
theorem EH(s p:BY)(w:Wl):
  Cl prog 104 #[nG s,nG p] w fun e w'=>e= nR (.bool (Lib.hasPrefix s.data.toList p.data.toList))/\w'=w:=by
 have a:=hZ (Mg s p);go_enter func104,ntmps104
 go_wp2_with(first
  |(go_at_call 139;refine(a.o _).mono ?_;rintro e b ⟨rfl,rfl⟩))
 go_ret;exact⟨rfl,rfl⟩
theorem GR(a b:BY):Lib.hasPrefix a.data.toList (b++(⟨#[47]⟩:BY)).data.toList=EV a b:=by
 unfold EV Lib.hasPrefix;simp
def dJ(d w:Wl)(T:Ti)(c:Vl)(l:List Vl)(u:Vl)(lit a:Bool)(e b:Vl):Prop:=
 (a=false->AK w c T l)/\(a=true->AK w b T (l++[u])/\∀g,b.ownBlock=nM g->c.ownBlock=nM g\/d.heap.size<=g)/\
 (lit=true->a=false->∃g,e= nS (nM ⟨g,0,nN⟩) 1 1/\d.heap.size<=g/\Ac w g [u] T)
theorem dJ.kept{j w w':Wl}{T:Ti}{i u n m:Vl}{l:List Vl}{lit k:Bool}{cs:List Nat}(h:dJ j w T i l u lit k n m)(d:Chg w w' cs)(c:∀x∈cs,x<j.heap.size/\i.ownBlock≠nM x:=by simp):dJ j w' T i l u lit k n m:=
 ⟨fun e=>(h.1 e).kept d (fun g f a=>(c g a).2 f),fun e=>⟨(h.2.1 e).1.kept d (fun g f a=>by
  rcases(h.2.1 e).2 g f with b|b
  .exact(c g a).2 b
  .have:=(c g a).1;omega),(h.2.1 e).2⟩,fun o p=>by
  obtain⟨g,b,q,r⟩:=h.2.2 o p
  exact⟨g,b,q,r.kept d (fun a=>by have:=(c g a).1;omega)⟩⟩
structure dL(w:Wl)(X b:Nat)(sl sk:Vl)(vs kl:List Vl):Prop where
 cell:Ac w X [nP (nM ⟨b,0,nN⟩)] 123
 blk:Ac w b [sl,sk] 125
 items:AK w sl 66 vs
 keys:AK w sk 9 kl
 ne:X≠b
 ni:∀g,sl.ownBlock=nM g->g≠b/\g≠X
 nk:∀g,sk.ownBlock=nM g->g≠b/\g≠X/\sl.ownBlock≠nM g
def dI(b:Nat)(a:BY)(c sk v:Vl)(j:Nat)(y:Vl):Prop:=match j with
 |0=>y= nP (nM ⟨b,0,nN⟩)
 |1=>y= nP (nM ⟨b,0,nN⟩)
 |2=>y= nP (nM ⟨b,0,nN⟩)
 |3=>y= nP (nM ⟨b,0,nN⟩)
 |4=>y= nP (nM ⟨b,1,nN⟩)
 |5=>y=sk
 |6=>y= nG a
 |9=>y= nP (nM ⟨b,0,nN⟩)
 |10=>y= nP (nM ⟨b,0,nN⟩)
 |11=>y= nP (nM ⟨b,0,nN⟩)
 |12=>y= nP (nM ⟨b,0,nN⟩)
 |13=>y=c
 |14=>y=v
 |17=>y= nP (nM ⟨b,0,nN⟩)
 |18=>y= nP (nM ⟨b,1,nN⟩)
 |20=>y= nP (nM ⟨b,0,nN⟩)
 |21=>y= nP (nM ⟨b,0,nN⟩)
 |22=>y= nP (nM ⟨b,0,nN⟩)
 |_=>True
structure dH(w4:Wl)(X b:Nat)(sl sk:Vl)(vs kl:List Vl)(key:BY)(v:Vl)(d:Nat->Bool)(f:Nat->Vl)(w:Wl):Prop where
 chg:Chg w4 w (b::(sl.ownBlock.toList++sk.ownBlock.toList))
 vals:∀j,d j=true->dI b key sl sk v j (f j)
 cell:Ac w X [nP (nM ⟨b,0,nN⟩)] 123
 blk:Ac w b [if d 23 then f 16 else sl,if d 19 then f 8 else sk] 125
 keys:dJ w4 w 9 sk kl (nG key) (d 7) (d 8) (f 7) (f 8)
 items:dJ w4 w 66 sl vs v (d 15) (d 16) (f 15) (f 16)
 sep:d 8=true->d 16=true->∀g,(f 8).ownBlock=nM g->(f 16).ownBlock≠nM g
section
variable{g j:Nat}{p:Prop}{y:Vl}
variable {w4 w w':Wl} {X b:Nat} {sl sk v:Vl} {vs kl:List Vl} {key:BY} {d:Nat->Bool} {f:Nat->Vl}
theorem dH.vals'(h:dH w4 X b sl sk vs kl key v d f w)(c:dI b key sl sk v j y):∀k,BA d j k=true->dI b key sl sk v k (Eb f j y k):=fun k a=>by
 by_cases e:k=j
 .subst e;rw[Bf];exact c
 .rw[AA f y e];rw[An d e]at a;exact h.vals k a
theorem dH.put(h:dH w4 X b sl sk vs kl key v d f w)(l:j≠7/\j≠8/\j≠15/\j≠16/\j≠19/\j≠23)(m:dI b key sl sk v j y):dH w4 X b sl sk vs kl key v (BA d j) (Eb f j y) w:=by
 obtain⟨g,c,e,a,i,k⟩:=l;refine⟨h.chg,h.vals' m,h.cell, ?_, ?_, ?_, ?_⟩
 .rw[An d (Ne.symm k),An d (Ne.symm i),AA f y (Ne.symm a),AA f y (Ne.symm c)];exact h.blk
 .rw[An d (Ne.symm g),An d (Ne.symm c),AA f y (Ne.symm g),AA f y (Ne.symm c)];exact h.keys
 .rw[An d (Ne.symm e),An d (Ne.symm a),AA f y (Ne.symm e),AA f y (Ne.symm a)];exact h.items
 .rw[An d (Ne.symm c),An d (Ne.symm a),AA f y (Ne.symm c),AA f y (Ne.symm a)];exact h.sep
theorem ac(h:p:=by rw[An d ZM,An d ZM,AA f _ ZM,AA f _ ZM];exact h.sep):p:=h
theorem z0a(h:p:=by refine⟨fun e=>c.1 (by rw[An d ZM]at e;exact e),fun e=> ?_,fun _ _=>⟨g,by rw[Bf],Q7 h.chg.size k,j⟩⟩;rw[An d ZM,i]at e;cases e):p:=h
theorem z0j(h:p:=by rw[An d ZM,An d ZM,AA f _ ZM,AA f _ ZM];exact h.blk.kept a):p:=h
theorem dH.lit7(h:dH w4 X b sl sk vs kl key v d f w)(i:d 8=false)(a:Chg w w' [])(k:w.heap.size<=g)(j:Ac w' g [nG key] 9):dH w4 X b sl sk vs kl key v (BA d 7) (Eb f 7 (nS (nM ⟨g,0,nN⟩) 1 1)) w':=by
 refine⟨h.chg.trans (a.none _),h.vals' trivial,h.cell.kept a, ?_, ?_, ?_, ?_⟩
 .exact z0j
 .have c:=h.keys.kept a;exact z0a
 .have c:=h.items.kept a;rw[An d ZM,An d ZM,AA f _ ZM,AA f _ ZM];exact c
 .exact ac
theorem dH.lit15(h:dH w4 X b sl sk vs kl key v d f w)(i:d 16=false)(a:Chg w w' [])(k:w.heap.size<=g)(j:Ac w' g [v] 66):dH w4 X b sl sk vs kl key v (BA d 15) (Eb f 15 (nS (nM ⟨g,0,nN⟩) 1 1)) w':=by
 refine⟨h.chg.trans (a.none _),h.vals' trivial,h.cell.kept a, ?_, ?_, ?_, ?_⟩
 .exact z0j
 .have c:=h.keys.kept a;rw[An d ZM,An d ZM,AA f _ ZM,AA f _ ZM];exact c
 .have c:=h.items.kept a;exact z0a
 .exact ac
theorem dH.app8(H:dL w4 X b sl sk vs kl)(h:dH w4 X b sl sk vs kl key v d f w)(s:d 19=false)(i:Chg w w' sk.ownBlock.toList)(u:AK w' y 9 (kl++[nG key]))(q:∀g,y.ownBlock=nM g->sk.ownBlock=nM g\/w.heap.size<=g):dH w4 X b sl sk vs kl key v (BA d 8) (Eb f 8 y) w':=by
 have j:∀g,g∈sk.ownBlock.toList->sk.ownBlock=nM g:=fun g n=>by simpa using n
 refine⟨h.chg.trans (i.mono fun k _ a=> ?_),h.vals' trivial,h.cell.kept i (fun a=> ?_), ?_, ?_, ?_, ?_⟩
 .simp only[Qh,Qf];exact .inr (.inr a)
 .exact(H.nk _ (j _ a)).2.1 rfl
 .have r:=h.blk.kept i (fun a=>(H.nk _ (j _ a)).1 rfl);rw[An d ZM,An d ZM,s,AA f y (show(16:Nat)≠8 by decide)];rw[s]at r;simpa using r
 ·
  refine⟨(fun e=>by rw[BG]at e;cases e),fun _=> ?_,(fun _ e=>by rw[BG]at e;cases e)⟩;rw[Bf];exact⟨u,fun g n=>(q g n).imp id fun c=>Q7 h.chg.size c⟩
 .rw[An d ZM,An d ZM,AA f y ZM,AA f y ZM];exact h.items.kept i fun x t=>⟨(H.keys.lt (j x t)),(H.nk x (j x t)).2.2⟩
 .intro B o g c l;rw[Bf]at c;rw[AA f y ZM]at l;rw[An d ZM]at o;obtain⟨z,A⟩:=h.items.2.1 o;rcases q g c with m|m
  .rcases A g l with p|p
   .exact(H.nk g m).2.2 p
   .have:=H.keys.lt m;omega
  .have:=z.lt l;omega
theorem dH.app16(H:dL w4 X b sl sk vs kl)(h:dH w4 X b sl sk vs kl key v d f w)(s:d 23=false)(i:Chg w w' sl.ownBlock.toList)(u:AK w' y 66 (vs++[v]))(q:∀g,y.ownBlock=nM g->sl.ownBlock=nM g\/w.heap.size<=g):dH w4 X b sl sk vs kl key v (BA d 16) (Eb f 16 y) w':=by
 have j:∀g,g∈sl.ownBlock.toList->sl.ownBlock=nM g:=fun g m=>by simpa using m
 refine⟨h.chg.trans (i.mono fun k _ c=> ?_),h.vals' trivial,h.cell.kept i (fun c=> ?_), ?_, ?_, ?_, ?_⟩
 .simp only[Qh,Qf];exact .inr (.inl c)
 .exact(H.ni _ (j _ c)).2 rfl
 .have r:=h.blk.kept i (fun c=>(H.ni _ (j _ c)).1 rfl);rw[An d ZM,An d ZM,s,AA f y (show(8:Nat)≠16 by decide)];rw[s]at r;simpa using r
 .rw[An d ZM,An d ZM,AA f y ZM,AA f y ZM];exact h.keys.kept i fun x t=>⟨(H.items.lt (j x t)),fun e=>(H.nk x e).2.2 (j x t)⟩
 ·
  refine⟨(fun e=>by rw[BG]at e;cases e),fun _=> ?_,(fun _ e=>by rw[BG]at e;cases e)⟩;rw[Bf];exact⟨u,fun g m=>(q g m).imp id fun a=>Q7 h.chg.size a⟩
 .intro n B g a o;rw[Bf]at o;rw[AA f y ZM]at a;rw[An d ZM]at n;obtain⟨z,A⟩:=h.keys.2.1 n;rcases q g o with l|l
  .rcases A g a with p|p
   .exact(H.nk g p).2.2 l
   .have:=H.items.lt l;omega
  .have:=z.lt a;omega
theorem z0d(h:p:=by rw[An d ZM,An d ZM,AA f _ ZM,AA f _ ZM];exact h.items.kept c fun x a=>by simp at a;subst a;exact⟨i,fun e=>(H.ni _ e).1 rfl⟩):p:=h
theorem z0e(h:p:=by rw[An d ZM,An d ZM,AA f _ ZM,AA f _ ZM];exact h.keys.kept c fun x a=>by simp at a;subst a;exact⟨i,fun e=>(H.nk _ e).1 rfl⟩):p:=h
theorem dH.store19(H:dL w4 X b sl sk vs kl)(h:dH w4 X b sl sk vs kl key v d f w):dH w4 X b sl sk vs kl key v (BA d 19) (Eb f 19 undef) (w.setCell ⟨b,1,nN⟩ (f 8)):=by
 have c:Chg w (w.setCell ⟨b,1,nN⟩ (f 8)) [b]:=(Chg.refl w [b]).setCell _ _ Zh;have i:=H.blk.lt;refine⟨h.chg.trans (c.mono fun k _ g=>by simp at g;subst g;simp),h.vals' trivial,h.cell.kept c (by simpa using H.ne), ?_, ?_, ?_, ?_⟩
 .rw[An d ZM,BG,Qr rfl,AA f _ ZM,AA f _ ZM];exact h.blk.set 1 _
 .exact z0e
 .exact z0d
 .exact ac
theorem dH.store23(H:dL w4 X b sl sk vs kl)(h:dH w4 X b sl sk vs kl key v d f w):dH w4 X b sl sk vs kl key v (BA d 23) (Eb f 23 undef) (w.setCell ⟨b,0,nN⟩ (f 16)):=by
 have c:Chg w (w.setCell ⟨b,0,nN⟩ (f 16)) [b]:=(Chg.refl w [b]).setCell _ _ Zh;have i:=H.blk.lt;refine⟨h.chg.trans (c.mono fun k _ g=>by simp at g;subst g;simp),h.vals' trivial,h.cell.kept c (by simpa using H.ne), ?_, ?_, ?_, ?_⟩
 .rw[BG,Qr rfl,An d ZM,AA f _ ZM,AA f _ ZM];exact h.blk.set 0 _
 .exact z0e
 .exact z0d
 .exact ac
end
variable{g:Nat}{G2:Nat->Prop}{p:Prop}{c w0 w2:Wl}
def dK(X b:Nat)(c sk:Vl)(vs h:List Vl)(f:BY)(v:Vl)(w:Wl)(e:Ending)(w':Wl):Prop:=
 e= nR (nT #[])/\∃d a,dL w' X b d a (vs++[v]) (h++[nG f])/\Chg w w' (b::(c.ownBlock.toList++sk.ownBlock.toList))/\(∀g,d.ownBlock=nM g->c.ownBlock=nM g\/w.heap.size<=g)/\(∀g,a.ownBlock=nM g->sk.ownBlock=nM g\/w.heap.size<=g)
theorem z0b(h:p:=by simp[Region.wanted]):p:=h
theorem fc(h:p:=by rw[Qr z0b];go_simp;exact f _ _ Zh (c.put ZM (by simp[dI]))):p:=h
theorem er(h:p:=by obtain rfl:=Q5 d;have G:a.tmps.getD 2 undef= nP (nM ⟨X,0,nN⟩):=p.at 2 Yb;have l:=c.cell.cell 0;simp only[Qa]at l;exact fc):p:=h
theorem dN(X b:Nat)(u sk:Vl)(vs n:List Vl)(r:BY)(s:Ti)(x:Vl)(w:Wl)(H:dL w X b u sk vs n)(hn:(vs.length+1)*16<=140737488355328/\vs.length<=140737488355328)(Y:(n.length+1)*16<=140737488355328/\n.length<=140737488355328):
  Cl prog 46 #[nG r,nF s x,nP (nM ⟨X,0,nN⟩)] w (dK X b u sk vs n r (nF s x) w):=by
 obtain⟨R,C⟩:=Ue (World.drew w);have U:=hZ C;have D:Hid (Chg w R []):=by rw[C];exact hZ (Chg.refl w []).drew
 have j:Hid (dL R X b u sk vs n):=by rw[C];exact hZ ⟨H.cell.drew,H.blk.drew,H.items.kept (bs:=[]) (Chg.refl w []).drew Zh,H.keys.kept (bs:=[]) (Chg.refl w []).drew Zh,H.ne,H.ni,H.nk⟩
 have S:=hZ hn;have T:=hZ Y;clear H hn Y C;go_enter func46,ntmps46;refine wp_region_any Yb ?_;change wpAny _ _ _ _ _ _ _ (World.drew _);rw[<-U.o];refine Dg _ (dH R X b u sk vs n r (nF s x)) Yb ?_ ?_ _ ?_
 .intro ii op a wa k d p o i v c K f;match ii,d with
  |0,d=>
   exact er
  |1,d=>
   exact er
  |2,d=>
   exact er
  |3,d=>
   obtain rfl:=Q5 d;have h7:a.tmps.getD 7 undef= nP (nM ⟨b,0,nN⟩):=c.vals 2 (i ⟨2,.data⟩ Zh rfl);exact fc
  |4,d=>
   obtain rfl:=Q5 d;have h8:a.tmps.getD 8 undef= nP (nM ⟨b,0,nN⟩):=c.vals 3 (i ⟨3,.data⟩ Zh rfl);exact fc
  |5,d=>
   obtain rfl:=Q5 d;have h9:a.tmps.getD 9 undef= nP (nM ⟨b,1,nN⟩):=c.vals 4 (i ⟨4,.data⟩ Zh rfl)
   have E:k 19=false:=by
    cases e:k 19 with
    |false=>rfl
    |true=>have:=v 19 _ rfl e ⟨5,.phase⟩ Zh rfl;rw[o]at this;cases this
   have l:=c.blk.cell 1;rw[E]at l;simp only[Qa,Qb]at l;exact fc
  |6,d=>
   obtain rfl:=Q5 d;have h0:a.tmps.getD 0 undef= nG r:=p.at 0 Yb;exact fc
  |7,d=>
   obtain rfl:=Q5 d;have ae:a.tmps.getD 11 undef= nG r:=c.vals 6 (i ⟨6,.data⟩ Zh rfl)
   have B:k 8=false:=by
    cases e:k 8 with
    |false=>rfl
    |true=>have:=v 8 _ rfl e ⟨7,.data⟩ Zh rfl;rw[o]at this;cases this
   have an:a.tmps[11]?.getD undef= nG r:=by simpa using ae
   rw[Qr z0b];go_simp;exact f _ _ Zh (c.lit7 B ((Chg.refl _ _).alloc _) (Q8 _) (Ac.new _ _ _))
  |8,d=>
   obtain rfl:=Q5 d;have d7:=i ⟨7,.data⟩ Zh rfl;have ad:a.tmps.getD 10 undef=sk:=c.vals 5 (i ⟨5,.data⟩ Zh rfl);obtain⟨g,N,q2,O⟩:=c.keys.2.2 d7 o;have af:a.tmps.getD 12 undef= nS (nM ⟨g,0,nN⟩) 1 1:=N
   have E:k 19=false:=by
    cases e:k 19 with
    |false=>rfl
    |true=>have:=v 19 _ rfl e ⟨8,.data⟩ Zh rfl;rw[o]at this;cases this
   refine Df rfl _ _ _ rfl 9 Ho 16 underlying27 Cf rfl sk n ad (c.keys.1 o) g (nG r) af (O.cell 0) rfl T.o.1 T.o.2 ?_;intro g2 cap w2 L I J;exact f _ _ Zh (c.app8 j.o E I L (fun x t=>by injection t with t;subst t;exact J.imp id (fun h=>Nat.le_of_eq h.symm)))
  |9,d=>
   exact er
  |10,d=>
   obtain rfl:=Q5 d;have ap:a.tmps.getD 14 undef= nP (nM ⟨b,0,nN⟩):=c.vals 9 (i ⟨9,.data⟩ Zh rfl);exact fc
  |11,d=>
   obtain rfl:=Q5 d;have aq:a.tmps.getD 15 undef= nP (nM ⟨b,0,nN⟩):=c.vals 10 (i ⟨10,.data⟩ Zh rfl);exact fc
  |12,d=>
   obtain rfl:=Q5 d;have ar:a.tmps.getD 16 undef= nP (nM ⟨b,0,nN⟩):=c.vals 11 (i ⟨11,.data⟩ Zh rfl);exact fc
  |13,d=>
   obtain rfl:=Q5 d;have au:a.tmps.getD 17 undef= nP (nM ⟨b,0,nN⟩):=c.vals 12 (i ⟨12,.data⟩ Zh rfl)
   have F:k 23=false:=by
    cases e:k 23 with
    |false=>rfl
    |true=>have:=v 23 _ rfl e ⟨13,.phase⟩ Zh rfl;rw[o]at this;cases this
   have l:=c.blk.cell 0;rw[F]at l;simp only[Qa]at l;exact fc
  |14,d=>
   obtain rfl:=Q5 d;have h1:a.tmps.getD 1 undef= nF s x:=p.at 1 Yb;exact fc
  |15,d=>
   obtain rfl:=Q5 d;have ah:a.tmps.getD 19 undef= nF s x:=c.vals 14 (i ⟨14,.data⟩ Zh rfl)
   have A:k 16=false:=by
    cases e:k 16 with
    |false=>rfl
    |true=>have:=v 16 _ rfl e ⟨15,.data⟩ Zh rfl;rw[o]at this;cases this
   have av:a.tmps[19]?.getD undef= nF s x:=by simpa using ah
   rw[Qr z0b];go_simp;exact f _ _ Zh (c.lit15 A ((Chg.refl _ _).alloc _) (Q8 _) (Ac.new _ _ _))
  |16,d=>
   obtain rfl:=Q5 d;have aa:=i ⟨15,.data⟩ Zh rfl;have ag:a.tmps.getD 18 undef=u:=c.vals 13 (i ⟨13,.data⟩ Zh rfl);obtain⟨g,N,q2,O⟩:=c.items.2.2 aa o;have ai:a.tmps.getD 20 undef= nS (nM ⟨g,0,nN⟩) 1 1:=N
   have F:k 23=false:=by
    cases e:k 23 with
    |false=>rfl
    |true=>have:=v 23 _ rfl e ⟨16,.data⟩ Zh rfl;rw[o]at this;cases this
   refine Df rfl _ _ _ rfl 66 .nilIface 16 underlying72 Jh rfl u vs ag (c.items.1 o) g (nF s x) ai (O.cell 0) rfl S.o.1 S.o.2 ?_;intro g2 cap w2 L I J;exact f _ _ Zh (c.app16 j.o F I L (fun x t=>by injection t with t;subst t;exact J.imp id (fun h=>Nat.le_of_eq h.symm)))
  |17,d=>
   obtain rfl:=Q5 d;have h5:a.tmps.getD 5 undef= nP (nM ⟨b,0,nN⟩):=c.vals 0 (i ⟨0,.data⟩ Zh rfl);exact fc
  |18,d=>
   obtain rfl:=Q5 d;have ax:a.tmps.getD 22 undef= nP (nM ⟨b,0,nN⟩):=c.vals 17 (i ⟨17,.data⟩ Zh rfl);exact fc
  |19,d=>
   obtain rfl:=Q5 d;have ay:a.tmps.getD 23 undef= nP (nM ⟨b,1,nN⟩):=c.vals 18 (i ⟨18,.data⟩ Zh rfl);have al:=c.blk.lt;have aj:=c.blk.frozen 1;have z:=c.store19 j.o;have d8:=i ⟨8,.data⟩ Zh rfl;obtain⟨P,Q,q,_⟩:=(c.keys.2.1 d8).1.form;rw[show(n++[Vl.string r]).length=n.length+1 from by simp]at q;rw[q]at z;have ao:a.tmps.getD 13 undef= nS P (n.length+1) Q:=q;have M:=c.blk.cell 1;simp only[Qa,Qb]at M;clear q;rw[Qr z0b];go_simp;exact f _ _ Zh z
  |20,d=>
   obtain rfl:=Q5 d;have h6:a.tmps.getD 6 undef= nP (nM ⟨b,0,nN⟩):=c.vals 1 (i ⟨1,.data⟩ Zh rfl);exact fc
  |21,d=>
   obtain rfl:=Q5 d;have az:a.tmps.getD 24 undef= nP (nM ⟨b,0,nN⟩):=c.vals 20 (i ⟨20,.data⟩ Zh rfl);exact fc
  |22,d=>
   obtain rfl:=Q5 d;have aA:a.tmps.getD 25 undef= nP (nM ⟨b,0,nN⟩):=c.vals 21 (i ⟨21,.data⟩ Zh rfl);exact fc
  |23,d=>
   obtain rfl:=Q5 d;have aB:a.tmps.getD 26 undef= nP (nM ⟨b,0,nN⟩):=c.vals 22 (i ⟨22,.data⟩ Zh rfl);have al:=c.blk.lt;have aj:=c.blk.frozen 0;have z:=c.store23 j.o;have ab:=i ⟨16,.data⟩ Zh rfl;obtain⟨P,Q,q,_⟩:=(c.items.2.1 ab).1.form;rw[show(vs++[Vl.iface s x]).length=vs.length+1 from by simp]at q;rw[q]at z;have aw:a.tmps.getD 21 undef= nS P (vs.length+1) Q:=q;have M:=c.blk.cell 0;simp only[Qa]at M;clear q;rw[Qr z0b];go_simp;exact f _ _ Zh z
  |_+24,d=>exact absurd d Zh
 .intro a wR k p y c
  have am:dK X b u sk vs n r (nF s x) w (nR (nT #[])) wR:=by
   have B:=y 8 ZM;have A:=y 16 ZM;obtain⟨k1,k2⟩:=c.keys.2.1 B;obtain⟨i1,i2⟩:=c.items.2.1 A;have V:=c.blk;rw[y 23 ZM,y 19 ZM,Qr rfl,Qr rfl]at V;have lb:=j.o.blk.lt;have lx:=j.o.cell.lt
   have ak:∀g,(bC _ a 16).ownBlock=nM g->g≠b/\g≠X:=fun g m=>by
    rcases i2 g m with h|h
    .exact j.o.ni g h
    .constructor<;>omega
   have Z:∀g,(bC _ a 8).ownBlock=nM g->g≠b/\g≠X:=fun g m=>by
    rcases k2 g m with h|h
    .exact⟨(j.o.nk g h).1,(j.o.nk g h).2.1⟩
    .constructor<;>omega
   exact⟨rfl,_,_,⟨c.cell,V,i1,k1,j.o.ne,ak,fun g m=>⟨(Z g m).1,(Z g m).2,fun e=>c.sep B A g m e⟩⟩,(D.o.none _).trans c.chg,fun g m=>(i2 g m).imp id (fun h=>Q7 D.o.size h),fun g m=>(k2 g m).imp id (fun h=>Q7 D.o.size h)⟩
  clear c y U;have W:=p.defers;obtain⟨tm,df⟩:=a;clear p;dsimp only at W;subst W;go_wp2_with fail;go_end0
  exact am
 .exact⟨Chg.refl _ _,(fun _ e=>by cases e),j.o.cell,j.o.blk,⟨fun _=>j.o.keys,(fun e=>by cases e),(fun e=>by cases e)⟩,⟨fun _=>j.o.items,(fun e=>by cases e),(fun e=>by cases e)⟩,(fun e=>by cases e)⟩
def FR(t:Tr)(p f:BY)(path frm:List BY):PV:=if EV p f=true then .no 175 else match Ah t frm with
 |none=> .no 4
 |some u=>if p=f then .yes t []else Ga (A8 t frm) path u [⟨1,A6 frm,Dz,Ai u⟩]
theorem Dr.keptG{f:Wl}{o:Bq}{sv:Vl}{ys:List Vl}{G:Nat->Prop}{cs:List Nat}(h:Dr f w2 o sv ys G)(d:Chg w2 c cs)(g:∀b,b∈cs->¬G b)(i:w0.heap.size<=f.heap.size):Dr w0 c o sv ys G:=by
 have e:i3 G w2 c:=d.keepsB (fun b a=>(h.new b a).2) g;exact⟨h.row.keptF h.inn e,h.inn,h.steps.kept e (fun _ h=>h),fun b a=>by have:=h.new b a;have:=d.size;omega⟩
theorem EW.two{h:Wl}{j k:Bq}{l m:Vl}{u w:List Vl}{p:Nat->Prop}(d:Dr w0 w2 j l u p)(f:Dr w0 w2 k m w G2)(x:w0.heap.size<=w2.heap.size)(r:Chg w2 h [])(q:Ac h g (BJ j l++BJ k m) 44)(y:w2.heap.size<=g):EW w0 h [j,k] (nS (nM ⟨g,0,Option.none⟩) 2 2) (BJ j l++BJ k m) (fun b=>b=g\/p b\/G2 b):=by
 have A:=r.size;have s:i3 p w2 h:=r.keepsB (fun b a=>(d.new b a).2) Zh;have t:i3 G2 w2 h:=r.keepsB (fun b a=>(f.new b a).2) Zh;refine⟨⟨_,_,rfl,Q8 _,by simp[BJ],fun i v z=>⟨g,0,rfl,by rw[Nat.zero_add,q.cell i];exact z⟩⟩,(fun b o n c e=>by injection e with e;injection e with e;injection e with e;exact .inl e.symm), ?_,Ba.ofBlk q rfl ZM, ?_⟩
 .exact⟨l,u,_,rfl,d.row.keptF d.inn s,d.inn.mono (fun b a=> .inr (.inl a)),d.steps.kept s (fun b a=> .inr (.inl a)),
   m,w,[],Zh,f.row.keptF f.inn t,f.inn.mono (fun b a=> .inr (.inr a)),f.steps.kept t (fun b a=> .inr (.inr a)),rfl⟩
 .rintro b (rfl|a|a)
  .exact⟨Q7 x y,q.lt⟩
  .have:=d.new b a;omega
  .have:=f.new b a;omega
theorem Yn{W:Nat}{A:Vl}{bs f d:List Nat}{z:Tr}{m n:CW}{w o:Wl}{v' x y:Vl}{F G:List Vl}{p:Nat->Prop}(v:Dr w c m.toI x F p)(t:DJ w (W::bs) f)(s:Chg w c (W::bs))(r:∀b,b∈f->¬p b)(e:Dr c w2 n.toI y G G2)(l:Hu w2 W z v' A d)(u:DJ c f (W::d))(k:Chg c w2 f)(B:∀b,b∈W::d->¬G2 b)(C:Ac o g (BJ m.toI x++BJ n.toI y) 44)(E:w2.heap.size<=g)(j:Chg w2 o []):BC W A (W::bs) (.yes z [n,m]) w (nR (nS (nM ⟨g,0,nN⟩) 2 2)) o:=by
 have H:=s.size;have J:=k.size;have D:Chg w w2 (W::bs):=s.step k (fun i hi I=>by rcases t.come i hi with h|h;exact h;omega);refine⟨v',d,_,_,_,rfl,EW.two (w0:=w) (v.keptG k r (Q8 _)) ⟨e.row,e.inn,e.steps,fun b a=>by have:=e.new b a;omega⟩ Zj j C E,l.kept j,t.trans u H,D.trans (j.none _),fun b a=> ?_⟩;rintro(rfl|h|h)
 .rcases Qh.1 a with h|h
  .have:=l.blk.lt;omega
  .have:=AP.lt _ _ _ l.at_ _ h;omega
 .rcases u.come b a with q|q
  .exact r b q h
  .have:=v.new b h;omega
 .exact B b a h
structure Kf(w4:Wl)(V:Nat->Vl->Prop)(P5 P6:Vl->Wl->Prop)(d:Nat->Bool)(f:Nat->Vl)(w:Wl):Prop where
 early:d 5=false->w=w4
 vals:∀j,j<5->d j=true->V j (f j)
 p5:d 5=true->d 6=false->P5 (f 5) w
 p6:d 6=true->P6 (f 6) w
 p7:d 7=true->f 7=f 6
section
variable{v:Vl}
variable {w4:Wl} {V:Nat->Vl->Prop} {P5 P6:Vl->Wl->Prop} {d:Nat->Bool} {f:Nat->Vl} {w w':Wl}
theorem Kf.read{j:Nat}(h:Kf w4 V P5 P6 d f w)(g:j<5)(c:V j v):Kf w4 V P5 P6 (BA d j) (Eb f j v) w:=by
 have n:∀k,k≠j->BA d j k=d k:=fun k a=>An d a;have m:∀k,k≠j->Eb f j v k=f k:=fun k a=>AA f v a;refine⟨?_, ?_, ?_, ?_, ?_⟩<;>try simp only[n 5 Zj,n 6 Zj,n 7 Zj,m 5 Zj,m 6 Zj,m 7 Zj]
 .exact h.early
 .intro k a b;by_cases e:k=j
  .subst e;rw[Bf];exact c
  .rw[m k e];rw[n k e]at b;exact h.vals k a b
 .exact h.p5
 .exact h.p6
 .exact h.p7
theorem z0f{p:Prop}(h:p:=by intro k a b;rw[m k Zj];rw[n k Zj]at b;exact h.vals k a b):p:=h
theorem Kf.added(h:Kf w4 V P5 P6 d f w)(c:d 6=false)(g:d 7=false)(i:P5 v w'):Kf w4 V P5 P6 (BA d 5) (Eb f 5 v) w':=by
 have n:∀k,k≠5->BA d 5 k=d k:=fun k a=>An d a;have m:∀k,k≠5->Eb f 5 v k=f k:=fun k a=>AA f v a;refine⟨?_, ?_, ?_, ?_, ?_⟩<;>try simp only[n 6 Zj,n 7 Zj,Bf,BG,m 6 Zj,m 7 Zj]
 .intro e;cases e
 .exact z0f
 .exact fun _ _=>i
 .rw[c];intro e;cases e
 .rw[g];intro e;cases e
theorem Kf.built(h:Kf w4 V P5 P6 d f w)(c:d 5=true)(g:d 7=false)(i:P6 v w'):Kf w4 V P5 P6 (BA d 6) (Eb f 6 v) w':=by
 have n:∀k,k≠6->BA d 6 k=d k:=fun k a=>An d a;have m:∀k,k≠6->Eb f 6 v k=f k:=fun k a=>AA f v a;refine⟨?_, ?_, ?_, ?_, ?_⟩<;>try simp only[n 5 Zj,n 7 Zj,Bf,BG,m 5 Zj,m 7 Zj]
 .rw[c];intro e;cases e
 .exact z0f
 .intro _ e;cases e
 .exact fun _=>i
 .rw[g];intro e;cases e
theorem Kf.end_(h:Kf w4 V P5 P6 d f w):Kf w4 V P5 P6 (BA d 7) (Eb f 7 (f 6)) w:=by
 have n:∀k,k≠7->BA d 7 k=d k:=fun k a=>An d a;have m:∀k,k≠7->Eb f 7 (f 6) k=f k:=fun k a=>AA f _ a;refine⟨?_, ?_, ?_, ?_, ?_⟩<;>try simp only[n 5 Zj,n 6 Zj,Bf,BG,m 5 Zj,m 6 Zj]
 .exact h.early
 .exact z0f
 .exact h.p5
 .exact h.p6
 .exact fun _=>trivial
end
variable{k:Int}{l:List Tr}{C c vs:List Vl}{P X b m:Nat}{p:Prop}{TP:Ti}{g:Vl}{w w' w0:Wl}
theorem Rw(W:Nat)(o sv q:Vl)(l:List Nat)(m n:Vl)(t:Tr)(ts c:List BY)(k:Int)(p f:BY)(w:Wl)(r:f.size<=16777216)(hi:EV p f=true):
  Cl prog 79 #[nP (nM ⟨W,0,nN⟩),nA #[nI nX k,nG p,nG f,sv,m,n,q]] w (BC W o l (FR t p f ts c) w):=by
 have g:FR t p f ts c= .no 175:=by unfold FR;rw[Qr hi]
 rw[g,Hz];have b:=GR p f;rw[hi]at b
 have j:=UD (∀a,Cl prog 104 #[nG p,nG (f++⟨#[47]⟩)] a fun e w'=>e= nR (.bool true)/\w'=a) fun a=>by
  have:=EH p (f++⟨#[47]⟩) a;rw[b]at this;exact this
 clear hi g b;go_enter func79,ntmps79
 go_wp2_with(first
  |(go_at_call 104;refine(j.o _).mono ?_;rintro e s ⟨rfl,rfl⟩)
  |(go_at_call 30;refine(Bu _ _).mono ?_;rintro e w2 ⟨d,h⟩;unfold By at d;subst d;have i:=UD (Chg w w2 []) (ct cR h);clear h))
 exact⟨rfl,rfl,i.o.none _⟩
theorem Rx(W:Nat)(t:Tr)(v s B:Vl)(bs:List Nat)(u:Nat->Prop)(i:Option Addr)(j:Nat)(ts a:List BY)(k:Int)(p f:BY)(sv A:Vl)(z:List Nat)(w:Wl)(l:Br w)(m:Hu w W t v s bs)(o:JC w u (nS i a.length j) a)(D:f.size<=16777216)(hi:EV p f=false)(c:Ah t a=nN):
  Cl prog 79 #[nP (nM ⟨W,0,nN⟩),nA #[nI nX k,nG p,nG f,sv,A,nS i a.length j,B]] w (BC W s z (FR t p f ts a) w):=by
 have r:FR t p f ts a= .no 4:=by unfold FR;rw[Qs (by simp[hi]),c]
 rw[r,Hz];have d:=GR p f;rw[hi]at d
 have y:=UD (∀b,Cl prog 104 #[nG p,nG (f++⟨#[47]⟩)] b fun e w'=>e= nR (.bool false)/\w'=b) fun b=>by
  have:=EH p (f++⟨#[47]⟩) b;rw[d]at this;exact this
 have g:=hZ (Im l m o c);obtain⟨C,q⟩:=Ue a.length;rw[<-q]at g|-;clear hi r d l m o c q;go_enter func79,ntmps79
 go_wp2_with(first
  |(go_at_call 104;refine(y.o _).mono ?_;rintro e E ⟨rfl,rfl⟩)
  |(go_at_call_of 30 (Vl.bool true);refine(Bv _ _).mono ?_;rintro e F ⟨rfl,rfl⟩)
  |(go_at_call 105;refine(g.o _ (by exact cg cR)).mono ?_;rintro e w2 ⟨n,h⟩;unfold By at n;subst n;have x:=UD (Chg w w2 []) (ct cR h);clear h))
 exact⟨rfl,rfl,x.o.none _⟩
theorem NH(W:Nat)(t u:Tr)(v A m:Vl)(bs:List Nat)(B:Nat->Prop)(b:Option Addr)(c:Nat)(ts a:List BY)(k:Int)(f:BY)(sv l:Vl)(w:Wl)(q:Br w)(d:Hu w W t v A bs)(y:(W::bs).Nodup)(r:JC w B (nS b a.length c) a)(J:f.size<=16777216)(hi:EV f f=false)(i:Ah t a=nM u):
  Cl prog 79 #[nP (nM ⟨W,0,nN⟩),nA #[nI nX k,nG f,nG f,sv,l,nS b a.length c,m]] w (BC W A (W::bs) (FR t f f ts a) w):=by
 have z:FR t f f ts a= .yes t []:=by unfold FR;rw[Qs (by simp[hi]),i];dsimp only;rw[Qr rfl]
 rw[z];have j:=GR f f;rw[hi]at j
 have E:=UD (∀g,Cl prog 104 #[nG f,nG (f++⟨#[47]⟩)] g fun e w'=>e= nR (.bool false)/\w'=g) fun g=>by
  have:=EH f (f++⟨#[47]⟩) g;rw[j]at this;exact this
 obtain⟨K,I,rest,x⟩:=EU d.at_ _ a _ rfl i;have o:=hZ (Dl q d r x);have F:=hZ d;have D:=hZ y;obtain⟨p,s⟩:=Ue a.length;rw[<-s]at o|-;clear hi z j q d r i s x y;go_enter func79,ntmps79
 go_wp2_with(first
  |(go_at_call 104;refine(E.o _).mono ?_;rintro e L ⟨rfl,rfl⟩)
  |(go_at_call_of 30 (Vl.bool true);refine(Bv _ _).mono ?_;rintro e M ⟨rfl,rfl⟩)
  |(go_at_call 105;refine(o.o _ (by exact cg cR)).mono ?_;rintro e w2 ⟨rfl,h⟩;have C:=UD (Chg w w2 []) (ct cR h);have n:=UD (Ac w2 w.heap.size [nI nX k,nG f,nG f,sv,l,nS b p c,m] 78) ((Ac.new w [nI nX k,nG f,nG f,sv,l,nS b p c,m] 78).kept h);have G:=n.o.cell 1;have H:=n.o.cell 2;simp only[Qa,Qb]at G H;clear h))
 refine bodyPost_ret (results_tmp rfl _ _ _) rfl ?_;exact QE F.o (DJ.refl D.o) (by exact cg C.o)
def KV(t:Tr)(path frm:List BY):PV:=match Ah t frm with
 |none=> .no 4
 |some u=>Ga t path u []
def FL(W B:Nat)(c:Vl)(a b:Vl)(j:Nat)(v:Vl):Prop:=match j with
 |0=>v= nP (nM ⟨W,0,nN⟩)
 |1=>v= nP (nM ⟨B,4,nN⟩)
 |2=>v=a
 |3=>v= nP (nM ⟨W,0,nN⟩)
 |4=>v= nP (nM ⟨B,5,nN⟩)
 |5=>v=b
 |6=>v=c
 |_=>True
def Mu(W B:Nat)(a b:Vl)(j:Nat)(v:Vl):Prop:=match j with
 |6=>False
 |7=>False
 |8=>False
 |9=>False
 |_=>FL W B .nilIface a b j v
def ao(W:Nat)(h:Vl)(bs:List Nat)(g:PV)(c:Wl)(v:Vl)(w:Wl):Prop:=
 ∃f r v' a d e ys G,g= .yes f [r]/\v= nA (BJ r.toI (nS d r.toI.steps.length e)).toArray/\Dr c w r.toI (nS d r.toI.steps.length e) ys G/\Hu w W f v' h a/\DJ c (W::bs) (W::a)/\Chg c w (W::bs)/\∀b,b∈W::a->¬G b
theorem dn(h:p:=by go_simp;exact m _ _ Zh (b.put (by simp[Mu,FL]) cR)):p:=h
theorem z0g(h:p:=by have R:rS a 3= nP (nM ⟨w.heap.size,0,nN⟩):=l.at 3 Yb;exact dn):p:=h
theorem z0m(h:p:=by have P:rS a 0= nP (nM ⟨W,0,nN⟩):=l.at 0 Yb;exact dn):p:=h
theorem NF(W:Nat)(t:Tr)(v J A:Vl)(bs:List Nat)(F L:Nat->Prop)(n i:Option Addr)(c j:Nat)(ts g:List BY)(k:Int)(p f:BY)(sv:Vl)(w:Wl)(h:UI W t v J bs F (nS n ts.length c) ts w)(H:JC w L (nS i g.length j) g)(x:Ah t g=nN):
  Cl prog 80 #[nP (nM ⟨W,0,nN⟩),nA #[nI nX k,nG p,nG f,sv,nS n ts.length c,nS i g.length j,A]] w (BC W J (W::bs) (KV t ts g) w):=by
 have E:=hZ (Im h.laid h.wat H x);have M:=UD (KV t ts g= .no 4) (by unfold KV;rw[x]);obtain⟨z,I⟩:=Ue ts.length;obtain⟨o,u⟩:=Ue g.length;rw[<-u]at E;rw[<-I,<-u];clear h H I u x;go_enter func80,ntmps80;go_wp2_with fail;obtain⟨B,q⟩:=Ue (World.drew (w.alloc (nC #[nI nX k,nG p,nG f,sv,nS n z c,nS i o j,A] 78)));have N:=hZ q;have C:Hid (Chg w B []):=by rw[q];exact hZ (((Chg.refl w []).alloc _).drew)
 have D:Hid (Ac B w.heap.size [nI nX k,nG p,nG f,sv,nS n z c,nS i o j,A] 78):=by rw[q];exact hZ (Ac.new w _ _).drew
 clear q;refine wp_region_any Yb ?_;change wpAny _ _ _ _ _ _ _ (World.drew _);rw[<-N.o];refine Gy _ (PX (Mu W w.heap.size (nS n z c) (nS i o j)) B) Yb ?_ ?_ _ ?_
 .intro U op a V O y l Z d b K m;match U,y with
  |0,rfl=>
   exact z0m
  |1,rfl=>
   exact z0g
  |2,rfl=>
   have T:rS a 6= nP (nM ⟨w.heap.size,4,nN⟩):=b.2 1 (d ⟨1,.data⟩ Zh rfl);have r:=D.o.kept b.1;have s:=r.cell 4;simp only[Qa,Qb]at s;exact dn
  |3,rfl=>
   exact z0m
  |4,rfl=>
   exact z0g
  |5,rfl=>
   have T:rS a 9= nP (nM ⟨w.heap.size,5,nN⟩):=b.2 4 (d ⟨4,.data⟩ Zh rfl);have r:=D.o.kept b.1;have s:=r.cell 5;simp only[Qa,Qb]at s;exact dn
  |6,rfl=>
   have Y:rS a 8= nP (nM ⟨W,0,nN⟩):=b.2 3 (d ⟨3,.data⟩ Zh rfl);have X:rS a 10= nS i o j:=b.2 5 (d ⟨5,.data⟩ Zh rfl);go_simp;go_at_call 105;refine(E.o V (C.o.trans b.1)).mono ?_;rintro e w1 ⟨G,Q⟩;unfold By at G;subst G;rw[M.o];exact⟨l.defers,rfl,((C.o.trans b.1).trans Q).none _⟩
  |7,rfl=>
   exact(b.2 6 (d ⟨6,.data⟩ Zh rfl):False).elim
  |8,rfl=>
   exact(b.2 7 (d ⟨7,.data⟩ Zh rfl):False).elim
  |9,rfl=>
   exact(b.2 8 (d ⟨8,.data⟩ Zh rfl):False).elim
  |10,rfl=>
   exact(b.2 9 (d ⟨9,.data⟩ Zh rfl):False).elim
  |_+11,y=>exact absurd y Zh
 .intro a wR O l S b;exact(b.2 6 (S 6 ZM):False).elim
 .exact⟨Chg.refl _ _,fun _ e=>by cases e⟩
theorem es(h:p:=by go_simp;exact s _ _ Zh (d.read ZM g (by simp[FL]) cR (.inl rfl))):p:=h
theorem z0h(h:p:=by have N:rS a 3= nP (nM ⟨w.heap.size,0,nN⟩):=m.at 3 Yb;exact es):p:=h
theorem z0l(h:p:=by have h0:rS a 0= nP (nM ⟨W,0,nN⟩):=m.at 0 Yb;exact es):p:=h
theorem NG(W:Nat)(t u:Tr)(v X vx:Vl)(bs:List Nat)(F F2:Nat->Prop)(H S:Option Addr)(c T:Nat)(ts I:List BY)(k:Int)(p f:BY)(sv:Vl)(w:Wl)(h:UI W t v X bs F (nS H ts.length c) ts w)(hf:JC w F2 (nS S I.length T) I)(V:Ah t I=nM u):
  Cl prog 80 #[nP (nM ⟨W,0,nN⟩),nA #[nI nX k,nG p,nG f,sv,nS H ts.length c,nS S I.length T,vx]] w (BC W X (W::bs) (KV t ts I) w):=by
 obtain⟨vu,bu,rest,ab⟩:=EU h.wat.at_ _ I _ rfl V;have ad:=h.wat.fine.lead V;have ap:=hZ (Dl h.laid h.wat hf ab);obtain⟨tu,xu,rfl⟩:=ab.at_.iface;have aI:=UD (∀A,Chg w A []->NQ (nF tu xu) u A) fun A hx=>Xq _ u _ bu A (Q8 _) (Ar ad.fits).1 (ab.at_.chg hx Zh);have HR:=UD (KV t ts I=Ga t ts u []) (by unfold KV;rw[V]);have aX:=h.wat.blk.lt;have aW:=h.big W Zh;have aO:=AP.lt _ _ _ h.wat.at_
 have al:=UD (∀q A Y o,Chg w q []->AP A u Y o->BP q o->Chg q A []->Cl prog 101 #[nP (nM ⟨W,0,nN⟩),nS H ts.length c,Y] A (Cq W X (W::(o++bs)) t u ts A)) fun q A Y o h1 h2 N h4=>by
  have hz:=h1.size;have aM:=h1.trans h4;have hk:=h.kept aM;refine Xo W t u v X Y bs o F H c ts A ⟨hk.laid,hk.wat,h2,ad,hk.tat, ?_,fun b E=> ?_,fun b E m=> ?_⟩
  .have hn:=h.nodup;simp only[List.nodup_cons,List.nodup_append,Qf,not_or]at hn|-;refine⟨⟨fun hm=>by have:=N.ge _ hm;omega,hn.1⟩,N.nodup,hn.2,fun x hx y hy e=> ?_⟩;subst e;have:=N.ge _ hx;have:=aO _ hy;omega
  .rcases Qh.1 E with l|l
   .omega
   .rcases Qf.1 l with l|l
    .have:=N.ge _ l;omega
    .exact h.big b (Qg _ l)
  .rcases Qh.1 E with l|l
   .exact h.apart b (by simp[l]) m
   .rcases Qf.1 l with l|l
    .have:=N.ge _ l;have:=h.tat.lt b m;omega
    .exact h.apart b (Qg _ l) m
 have HH:=hZ h;have aR:=hZ ad;obtain⟨aH,L⟩:=Ue (Ga t ts u []);have an:=hZ L;obtain⟨tn,ae⟩:=Ue ts.length;obtain⟨fn,aj⟩:=Ue I.length;rw[<-aj]at ap;rw[<-ae]at al;have aS:=hZ ae;rw[HR.o,<-L,<-ae,<-aj];clear h hf ae aj V ab ad L;go_enter func80,ntmps80;go_wp2_with fail;obtain⟨q,af⟩:=Ue (World.drew (w.alloc (nC #[nI nX k,nG p,nG f,sv,nS H tn c,nS S fn T,vx] 78)));have aJ:=hZ af;have Q:Hid (Chg w q []):=by rw[af];exact hZ (((Chg.refl w []).alloc _).drew)
 have am:Hid (Ac q w.heap.size [nI nX k,nG p,nG f,sv,nS H tn c,nS S fn T,vx] 78):=by rw[af];exact hZ (Ac.new w _ _).drew
 clear af;refine wp_region_any Yb ?_;change wpAny _ _ _ _ _ _ _ (World.drew _);rw[<-aJ.o];refine Dg _ (IL q (FL W w.heap.size (nF tu xu) (nS H tn c) (nS S fn T)) (fun v w'=>∃o,AP w' u v o/\BP q o/\Chg q w' []) (ao W X bs aH q) (fun v w'=>BC W X (W::bs) aH w (nR v) w')) Yb ?_ ?_ _ ?_
 .intro ii op a wa B ho m g C J d K s;match ii,ho with
  |0,rfl=>
   exact z0l
  |1,rfl=>
   exact z0h
  |2,rfl=>
   have hp:rS a 6= nP (nM ⟨w.heap.size,4,nN⟩):=d.vals 1 ZM (C ⟨1,.data⟩ Zh rfl)
   have M:B 8=false:=by
    cases e:B 8 with
    |false=>rfl
    |true=>have:=d.o8 e _ (by decide:2<8);rw[g]at this;cases this
   have ah:=am.o.kept (d.early M);have J:=ah.cell 4;simp only[Qa,Qb]at J;exact es
  |3,rfl=>
   exact z0l
  |4,rfl=>
   exact z0h
  |5,rfl=>
   have hp:rS a 9= nP (nM ⟨w.heap.size,5,nN⟩):=d.vals 4 ZM (C ⟨4,.data⟩ Zh rfl)
   have M:B 8=false:=by
    cases e:B 8 with
    |false=>rfl
    |true=>have:=d.o8 e _ (by decide:5<8);rw[g]at this;cases this
   have ah:=am.o.kept (d.early M);have J:=ah.cell 5;simp only[Qa,Qb]at J;exact es
  |6,rfl=>
   have M:B 8=false:=by
    cases e:B 8 with
    |false=>rfl
    |true=>have:=d.o8 e _ (by decide:6<8);rw[g]at this;cases this
   have h8:rS a 8= nP (nM ⟨W,0,nN⟩):=d.vals 3 ZM (C ⟨3,.data⟩ Zh rfl);have aT:rS a 10= nS S fn T:=d.vals 5 ZM (C ⟨5,.data⟩ Zh rfl);go_simp;go_at_call 105;refine(ap.o wa (Q.o.trans (d.early M))).mono ?_;rintro e w1 ⟨rfl,h1⟩;exact s _ _ Zh (d.read ZM g rfl h1 (.inr rfl))
  |7,rfl=>
   have M:B 8=false:=by
    cases e:B 8 with
    |false=>rfl
    |true=>have:=d.o8 e _ (by decide:7<8);rw[g]at this;cases this
   have R:=C ⟨6,.data⟩ Zh rfl;have aL:a.tmps.getD 11 undef= nF tu xu:=d.vals 6 ZM R;have ai:=d.early M;obtain⟨ff,aK,m1,m2⟩:=aI.o wa (Q.o.trans ai);rw[Qr z0b];refine I3 _ _ _ rfl _ aL ff aK m1 _ m2 ?_;rintro e w1 ⟨Y,o,rfl,q1,O,P⟩;exact⟨Y,rfl,s _ _ Zh (d.made g R ⟨o,q1,⟨O.nodup,fun b E=>Q7 ai.size (O.ge b E)⟩,ai.trans P⟩ P)⟩
  |8,rfl=>
   have d7:=C ⟨7,.data⟩ Zh rfl;have d2:=C ⟨2,.data⟩ Zh rfl;have R:=d.o7 d7;have d5:=J 6 _ rfl R ⟨5,.data⟩ Zh rfl
   have av:∀j,j<8->B j=true:=fun j hj=>by
    match j,hj with
    |0,_=>exact C ⟨0,.data⟩ Zh rfl
    |1,_=>exact J 2 _ rfl d2 ⟨1,.data⟩ Zh rfl
    |2,_=>exact d2
    |3,_=>exact J 6 _ rfl R ⟨3,.data⟩ Zh rfl
    |4,_=>exact J 5 _ rfl d5 ⟨4,.data⟩ Zh rfl
    |5,_=>exact d5
    |6,_=>exact R
    |7,_=>exact d7
   have l:rS a 5= nP (nM ⟨W,0,nN⟩):=d.vals 0 ZM (av 0 ZM);have h7:rS a 7= nS H tn c:=d.vals 2 ZM d2;obtain⟨o,q1,O,P⟩:=d.p7 d7 g;obtain⟨tc,xc,ar⟩:=q1.iface;rw[ar]at q1;have aU:rS a 12= nF tc xc:=ar;have HA:=al.o q wa _ o Q.o q1 O P;go_simp;go_at_call 101;refine HA.mono ?_;intro e w1 aP;have hz:=Q.o.size;rcases NS [] aP with⟨n,Z,U,D⟩|⟨t',Z,v',aq,aY,ys,G,U,D,g4,g5,g6,g7⟩
   .unfold By at U;subst U;rw[an.o,Z]
    exact⟨m.defers,rfl,(Q.o.none _).trans ((P.none _).step D (fun i hi V=>by
     rcases Qh.1 hi with h|h
     .simp[h]
     .rcases Qf.1 h with h|h
      .have:=O.ge i h;omega
      .exact Qg _ h))⟩
   .subst U;obtain⟨sa,sc,rfl,_⟩:=D.row.form;have aQ:=P.size
    exact s _ _ Zh (d.added g av ⟨t',_,v',aq,sa,sc,ys,G,an.o.trans Z,rfl,⟨D.row,D.inn,D.steps,fun b E=>by have:=D.new b E;omega⟩,g4,⟨g5.nodup,fun b E=>by
     rcases g5.come b E with h|h
     .rcases Qh.1 h with h|h
      .exact .inl (by simp[h])
      .rcases Qf.1 h with h|h
       .exact .inr (O.ge b h)
       .exact .inl (Qg _ h)
     .exact .inr (Q7 aQ h)⟩,(P.none _).step g6 (fun i hi V=>by
     rcases Qh.1 hi with h|h
     .simp[h]
     .rcases Qf.1 h with h|h
      .have:=O.ge i h;omega
      .exact Qg _ h),g7⟩)
  |9,rfl=>
   have d8:=C ⟨8,.data⟩ Zh rfl;obtain⟨t',r,v',aq,sa,sc,ys,G,Z,U,D,g4,g5,g6,g7⟩:=d.p8 d8 g;have au:a.tmps.getD 13 undef= nA (BJ r.toI (nS sa r.toI.steps.length sc)).toArray:=U;unfold BJ at au;have aV:a.tmps[13]?.getD undef= nA [Vl.int nX r.toI.kind,nG r.toI.path,nG r.toI.frm,nS sa r.toI.steps.length sc].toArray:=by rw[<-Qp];exact au
   go_simp;refine s _ _ Zh (d.built g d8 ?_);rw[Z];exact GC Q.o D g4 g5 g6 g7 (Ac.new wa (BJ r.toI (nS sa r.toI.steps.length sc)) 44) (Q8 _) ((Chg.refl wa []).alloc _)
  |10,rfl=>
   have d9:=C ⟨9,.data⟩ Zh rfl;have aN:=d.end_ d9;go_simp;exact s _ _ Zh (by rw[<-Qp];exact aN)
  |_+11,ho=>exact absurd ho Zh
 .intro a wR B m hd d;have L:=d.p9 (hd 9 ZM);rw[<-d.p10 (hd 10 ZM)]at L;change BC _ _ _ _ _ (nR (a.tmps.getD 4 undef)) wR at L;have ag:=hZ L;clear d hd L;have aa:=m.form' [5,6,7,8,9,10,11,12,13,14,4] Yb;have aw:=m.defers;obtain⟨z,df⟩:=a;clear m;dsimp only at aa aw ag;simp only[List.foldl_cons,List.foldl_nil]at aa;obtain⟨u5,aC⟩:=Ue (z.getD 5 undef);obtain⟨u6,aD⟩:=Ue (z.getD 6 undef);obtain⟨u7,aE⟩:=Ue (z.getD 7 undef);obtain⟨u8,aF⟩:=Ue (z.getD 8 undef);obtain⟨u9,aG⟩:=Ue (z.getD 9 undef);obtain⟨u10,ax⟩:=Ue (z.getD 10 undef);obtain⟨u11,ay⟩:=Ue (z.getD 11 undef);obtain⟨u12,az⟩:=Ue (z.getD 12 undef);obtain⟨u13,aA⟩:=Ue (z.getD 13 undef);obtain⟨u14,aB⟩:=Ue (z.getD 14 undef);obtain⟨u4,ak⟩:=Ue (z.getD 4 undef);rw[<-aC,<-aD,<-aE,<-aF,<-aG,<-ax,<-ay,<-az,<-aA,<-aB,<-ak]at aa;rw[<-ak]at ag;clear aC aD aE aF aG ax ay az aA aB ak;simp only[List.setIfInBounds_toArray,List.set_cons_zero,List.set_cons_succ]at aa;subst aa;subst aw;go_wp2_with fail;refine bodyPost_ret (results_tmp rfl _ _ _) rfl ?_;exact ag.o
 .exact⟨fun _=>Chg.refl _ _,(fun _ _ e=>by cases e),(fun e=>by cases e),(fun e=>by cases e),(fun e=>by cases e),(fun e=>by cases e),(fun e=>by cases e),(fun e=>by cases e),(fun e=>by cases e),(fun e=>by cases e)⟩
def Rl(W B:Nat)(a c b:Vl)(j:Nat)(v:Vl):Prop:=match j with
 |0=>v=a
 |1=>v= nP (nM ⟨W,0,nN⟩)
 |2=>v= nP (nM ⟨B,4,nN⟩)
 |3=>v=b
 |4=>v=c
 |_=>True
def an(W:Nat)(j:Vl)(d:List Nat)(i:PV)(h:CW)(c:Wl)(v:Vl)(w:Wl):Prop:=
 ∃g r v' a e f ys G,i= .yes g [r,h]/\v= nA (BJ r.toI (nS e r.toI.steps.length f)).toArray/\Dr c w r.toI (nS e r.toI.steps.length f) ys G/\Hu w W g v' j a/\DJ c d (W::a)/\Chg c w d/\∀b,b∈W::a->¬G b
theorem z0c(h:p:=by go_simp;exact C _ _ Zh (d.read ZM (by simp[Rl]))):p:=h
theorem Pk(W:Nat)(t u:Tr)(v z vx:Vl)(bs:List Nat)(F F2:Nat->Prop)(B I:Option Addr)(c J:Nat)(ts g:List BY)(k:Int)(p f:BY)(sv:Vl)(w:Wl)(h:UI W t v z bs F (nS B ts.length c) ts w)(hf:UI W t v z bs F2 (nS I g.length J) g w)(aR:g≠[])(br:f.size<=16777216)(hi:EV p f=false)(aS:p≠f)(L:Ah t g=nM u):
  Cl prog 79 #[nP (nM ⟨W,0,nN⟩),nA #[nI nX k,nG p,nG f,sv,nS B ts.length c,nS I g.length J,vx]] w (BC W z (W::bs) (FR t p f ts g) w):=by
 have hr:FR t p f ts g=Ga (A8 t g) ts u [⟨1,A6 g,Dz,Ai u⟩]:=by unfold FR;rw[Qs (by simp[hi]),L];dsimp only;rw[Qs aS]
 have hp:=GR p f;rw[hi]at hp
 have HP:=UD (∀j,Cl prog 104 #[nG p,nG (f++⟨#[47]⟩)] j fun e w'=>e= nR (.bool false)/\w'=j) fun j=>by
  have:=EH p (f++⟨#[47]⟩) j;rw[hp]at this;exact this
 obtain⟨bB,bi,bx,aO⟩:=EU h.wat.at_ _ g _ rfl L;have ak:=hZ (Dl h.laid h.wat hf.tat aO);have aP:=h.wat.fine.lead L;have bd:=AP.lt _ _ _ h.wat.at_;have bp:=h.wat.blk.lt;have bo:=h.big W Zh
 have af:=UD (∀j,Chg w j []->Cl prog 102 #[nP (nM ⟨W,0,nN⟩),nS I g.length J] j (T6 W z (W::bs) (A8 t g) u (AC 1 g (Ai u)) j)) fun j hx=>by
  have:=Xw W t v z bs F2 I J g j (hf.kept hx) aR;rwa[JF L]at this
 obtain⟨t1,au⟩:=Ue (A8 t g);obtain⟨N,aq⟩:=Ue ((⟨1,A6 g,Dz,Ai u⟩:CW));rw[<-au,<-aq]at hr;rw[<-au,show AC 1 g (Ai u)=N.toI by rw[aq];rfl]at af
 have ai:=UD (∀j vu x v1 s,Chg w j (W::bs)->AP j u vu x->Hu j W t1 v1 z s->DJ w (W::bs) (W::(x++s))->Cl prog 101 #[nP (nM ⟨W,0,nN⟩),nS B ts.length c,vu] j (Cq W z (W::(x++s)) t1 u ts j)) fun j vu x v1 s h1 h2 h3 h4=>by
  have hz:=h1.size;refine Xo W t1 u v1 z vu s x F B c ts j ⟨h.laid.kept h1 h.big,h3,h2,aP,h.tat.kept h1 h.apart,h4.nodup,fun b Z=> ?_,fun b Z m=> ?_⟩
  .rcases h4.come b Z with S|S
   .exact h.big b S
   .omega
  .rcases h4.come b Z with S|S
   .exact h.apart b S m
   .have:=h.tat.lt b m;omega
 obtain⟨a2,ar⟩:=Ue (Ga t1 ts u [N]);have aC:=hZ ar;rw[hr,<-ar];obtain⟨tn,av⟩:=Ue ts.length;obtain⟨fn,ah⟩:=Ue g.length;obtain⟨l,ab⟩:=Ue N.toI;have a5:=hZ ab;rw[<-ah,<-ab]at af;rw[<-ah]at ak;rw[<-av]at ai;rw[<-av,<-ah];have HH:=hZ h;have bf:¬p.toList=f.toList:=fun e=>aS (DK (by rwa[Lib.toList_data,Lib.toList_data]at e));have bt:(p.toList==f.toList)=false:=by simpa using bf
 clear hr hp hi h hf L aO aP ah av ar ab au aq aR;go_enter func79,ntmps79
 go_wp2_with(first
  |(go_at_call 104;refine(HP.o _).mono ?_;rintro e w1 ⟨rfl,rfl⟩)
  |(go_at_call_of 30 (Vl.bool true);refine(Bv _ _).mono ?_;rintro e A ⟨rfl,rfl⟩)
  |(go_at_call 105;refine(ak.o _ (by exact cg cR)).mono ?_;rintro e w2 ⟨rfl,h⟩;have H2:=UD (Chg w w2 []) (ct cR h);have O:=UD (Ac w2 w.heap.size [nI nX k,nG p,nG f,sv,nS B tn c,nS I fn J,vx] 78) ((Ac.new w [nI nX k,nG p,nG f,sv,nS B tn c,nS I fn J,vx] 78).kept h);have x1:=O.o.cell 1;have x2:=O.o.cell 2;have x5:=O.o.cell 5;simp only[Qa,Qb]at x1 x2 x5;clear h)
  |(go_at_call 102;refine(af.o _ (by exact cg H2.o)).mono ?_;rintro e q ⟨vu,x,v1,s,bz,bh,G1,rfl,k1,k2,k3,k4,k5,k6⟩;have ae:=UD (Chg w2 q (W::bs)) (ct cR k5);have a8:=hZ k5.size;have K1:=hZ k1;have K2:=hZ k2;have K3:=hZ k3;have K4:=hZ k4;have K6:=hZ k6;obtain⟨D,E,rfl,_⟩:=k1.row.form;clear k1 k2 k3 k4 k5 k6)
  |(refine Ae rfl _ _ _ rfl q.heap.size (BJ l (nS D l.steps.length E)) ZN ZN 44 Ef (by exact Ac.new q Ef 44) A0 rfl (Dx _ _ _ _) ?_;intro w7 a1 aK aQ;have az:=hZ aK;have aA:=hZ aQ;have aD:=hZ a1;clear a1 aK aQ))
 have ax:=aD.o;have ax:w7.heap.size=q.heap.size+1:=by simpa using ax
 have a0:=H2.o.size;have bu:=ae.o.size;have bv:=a8.o;have bq:=O.o.lt;have aG:Chg q w7 []:=(Chg.step (Chg.alloc cR _) aA.o (fun i hi L=>by simp at hi;omega));obtain⟨A,ad⟩:=Ue (World.drew w7);have a7:=hZ ad;have R:Chg q A []:=by rw[ad];exact aG.drew
 have bw:A.heap.size=q.heap.size+1:=by rw[ad];exact ax
 have aJ:Ac A q.heap.size (BJ l (nS D l.steps.length E)) 44:=by rw[ad];exact az.o.drew
 have al:Chg w A (W::bs):=(H2.o.none _).trans (ae.o.trans (R.none _))
 have be:∀y,y∈W::bs->y<w.heap.size:=fun y hy=>by
  rcases Qh.1 hy with h|h
  .omega
  .exact bd y h
 have aL:Ac A w.heap.size [nI nX k,nG p,nG f,sv,nS B tn c,nS I fn J,vx] 78:=(O.o.kept ae.o (fun hm=>Nat.lt_irrefl _ (be _ hm))).kept R;have am:DJ w (W::bs) (W::(x++s)):=K4.o.back a0;have aM:Dr w A l (nS D l.steps.length E) bh G1:=K1.o.keptG (w0:=w) R Zh a0;have ao:=K2.o.chg R Zh;have aN:=K3.o.kept R;obtain⟨tu,xu,rfl⟩:=ao.iface;have aI:=ai.o A _ x v1 s al ao aN am
 have bc:q.heap.size∉W::(x++s):=fun hm=>by
  rcases Qh.1 hm with h|h
  .have:=K3.o.blk.lt;omega
  .rcases Qf.1 h with h|h
   .have:=AP.lt _ _ _ K2.o _ h;omega
   .have:=AP.lt _ _ _ K3.o.at_ _ h;omega
 have H4:=hZ al;have ay:=hZ aJ;have a4:=hZ aL;have aB:=hZ am;have a6:=hZ aM;have a3:=hZ aI;clear ad aG R aJ al aL am aM ao aN aI aD az aA ae H2 O x1 x2 x5 K1 K2 K3 K4 ak af HP ai;refine wp_region_any Yb ?_;change wpAny _ _ _ _ _ _ _ (World.drew _);rw[<-a7.o];refine Dg _ (Kf A (Rl W w.heap.size (nA (BJ l (nS D l.steps.length E)).toArray) (nF tu xu) (nS B tn c)) (an W z (W::(x++s)) a2 N A) (fun v w'=>BC W z (W::bs) a2 w (nR v) w')) Yb ?_ ?_ _ ?_
 .intro ii op a wa o ho m U M aa d K C;match ii,ho with
  |0,rfl=>
   have h6:rS a 6= nP (nM ⟨q.heap.size,0,nN⟩):=m.at 6 Yb
   have a9:Ac wa q.heap.size (BJ l (nS D l.steps.length E)) 44:=by
    cases e5:o 5 with
    |false=>rw[d.early e5];exact ay.o
    |true=>
     cases V:o 6 with
     |false=>
      obtain⟨_,_,_,_,_,_,_,_,_,_,_,_,_,Y,_⟩:=d.p5 e5 V;exact ay.o.kept Y bc
     |true=>have:=aa 6 _ rfl V ⟨0,.data⟩ Zh rfl;rw[U]at this;cases this
   obtain⟨_,_,y0,y1,y2,y3⟩:=a9.cells4;go_simp;exact C _ _ Zh (d.read ZM rfl)
  |1,rfl=>
   have h0:rS a 0= nP (nM ⟨W,0,nN⟩):=m.at 0 Yb;exact z0c
  |2,rfl=>
   have h3:rS a 3= nP (nM ⟨w.heap.size,0,nN⟩):=m.at 3 Yb;exact z0c
  |3,rfl=>
   have hp:rS a 37= nP (nM ⟨w.heap.size,4,nN⟩):=d.vals 2 ZM (M ⟨2,.data⟩ Zh rfl)
   have e5:o 5=false:=by
    cases e:o 5 with
    |false=>rfl
    |true=>have:=aa 5 _ rfl e ⟨3,.data⟩ Zh rfl;rw[U]at this;cases this
   have hw:=d.early e5;subst hw;have ba:=a4.o.cell 4;simp only[Qa,Qb]at ba;exact z0c
  |4,rfl=>
   have S:rS a 5= nF tu xu:=m.at 5 Yb;exact z0c
  |5,rfl=>
   have bk:rS a 36= nP (nM ⟨W,0,nN⟩):=d.vals 1 ZM (M ⟨1,.data⟩ Zh rfl);have bl:rS a 38= nS B tn c:=d.vals 3 ZM (M ⟨3,.data⟩ Zh rfl);have bm:rS a 39= nF tu xu:=d.vals 4 ZM (M ⟨4,.data⟩ Zh rfl);have hw:=d.early U;subst hw
   have V:o 6=false:=by
    cases e:o 6 with
    |false=>rfl
    |true=>have:=aa 6 _ rfl e ⟨5,.data⟩ Zh rfl;rw[U]at this;cases this
   have e7:o 7=false:=by
    cases e:o 7 with
    |false=>rfl
    |true=>have:=aa 7 _ rfl e ⟨6,.data⟩ Zh rfl;rw[V]at this;cases this
   go_simp;go_at_call 101;refine a3.o.mono ?_;intro e w1 bg;rcases NS [N] bg with⟨n,X,P,Q⟩|⟨t',X,v',aE,bA,ys,G,P,Q,g4,g5,Y,g7⟩
   .unfold By at P;subst P;rw[aC.o,X];have hz:=H4.o.size;exact⟨m.defers,rfl,H4.o.step Q (fun i hi L=>by rcases aB.o.come i hi with h|h;exact h;omega)⟩
   .subst P;obtain⟨sa,sc,rfl,_⟩:=Q.row.form;exact C _ _ Zh (d.added V e7 ⟨t',_,v',aE,sa,sc,ys,G,aC.o.trans X,rfl,Q,g4,g5,Y,g7⟩)
  |6,rfl=>
   have d5:=M ⟨5,.data⟩ Zh rfl;have d0:=M ⟨0,.data⟩ Zh rfl
   have e7:o 7=false:=by
    cases e:o 7 with
    |false=>rfl
    |true=>have:=aa 7 _ rfl e ⟨6,.data⟩ Zh rfl;rw[U]at this;cases this
   obtain⟨t',r,v',aE,sa,sc,ys,G,X,P,Q,g4,g5,Y,g7⟩:=d.p5 d5 U;have aH:a.tmps.getD 40 undef= nA (BJ r.toI (nS sa r.toI.steps.length sc)).toArray:=P;have aF:a.tmps.getD 35 undef= nA (BJ l (nS D l.steps.length E)).toArray:=d.vals 0 ZM d0;unfold BJ at aH aF;have bn:a.tmps[40]?.getD undef= nA [Vl.int nX r.toI.kind,nG r.toI.path,nG r.toI.frm,nS sa r.toI.steps.length sc].toArray:=by rw[<-Qp];exact aH
   have bj:a.tmps[35]?.getD undef= nA [Vl.int nX l.kind,nG l.path,nG l.frm,nS D l.steps.length E].toArray:=by rw[<-Qp];exact aF
   have HU:=a6.o;go_simp;refine C _ _ Zh (d.built d5 e7 ?_);have ab:=a5.o;subst ab;rw[X];exact Yn HU aB.o H4.o (fun b Z=>K6.o b Z) Q g4 g5 Y g7 (Ac.new wa (BJ N.toI (nS D N.toI.steps.length E)++BJ r.toI (nS sa r.toI.steps.length sc)) 44) (Q8 _) ((Chg.refl wa []).alloc _)
  |7,rfl=>
   have d6:=M ⟨6,.data⟩ Zh rfl;have bb:=d.end_;go_simp;exact C _ _ Zh (by rw[<-Qp];exact bb)
  |_+8,ho=>exact absurd ho Zh
 .intro a wR o m hd d;have ag:=d.p6 (hd 6 ZM);rw[<-d.p7 (hd 7 ZM)]at ag;change BC _ _ _ _ _ (nR (a.tmps.getD 4 undef)) wR at ag;have aj:=hZ ag;clear d hd ag;have T:=m.form' [35,36,37,38,39,40,41,4] Yb;have ap:=m.defers;obtain⟨H,df⟩:=a;clear m;dsimp only at T ap aj;simp only[List.foldl_cons,List.foldl_nil]at T;obtain⟨u35,aT⟩:=Ue (H.getD 35 undef);obtain⟨u36,aU⟩:=Ue (H.getD 36 undef);obtain⟨u37,aV⟩:=Ue (H.getD 37 undef);obtain⟨u38,aW⟩:=Ue (H.getD 38 undef);obtain⟨u39,aX⟩:=Ue (H.getD 39 undef);obtain⟨u40,aY⟩:=Ue (H.getD 40 undef);obtain⟨u41,aZ⟩:=Ue (H.getD 41 undef);obtain⟨u4,aw⟩:=Ue (H.getD 4 undef);rw[<-aT,<-aU,<-aV,<-aW,<-aX,<-aY,<-aZ,<-aw]at T;rw[<-aw]at aj;clear aT aU aV aW aX aY aZ aw;dsimp only[Act.put]at T ap;simp only[List.setIfInBounds_toArray,List.set_cons_zero,List.set_cons_succ]at T;subst T;subst ap;go_wp2_with fail;refine bodyPost_ret (results_tmp rfl _ _ _) rfl ?_;exact aj.o
 .exact⟨fun _=>rfl,(fun _ _ e=>by cases e),(fun e=>by cases e),(fun e=>by cases e),(fun e=>by cases e)⟩
def CP(k:Int):Bool:=decide (1<=k/\k<=6)
theorem fW(h:p:=by go_enter func48,ntmps48;go_wp2;exact bodyPost_ret (results_tmp3 rfl _ _ _) rfl ⟨rfl,Chg.refl _ _⟩):p:=h
theorem Jm(k:Int)(w:Wl):Cl prog 48 #[nI nX k] w fun e w'=>e= nR (nT #[.bool (AO k),.bool (AN k),.bool (CP k)])/\Chg w w' []:=by
 have o:AO k=(decide (k=4)||decide (k=5)):=rfl;have p:AN k=(decide (k=1)||decide (k=3)||decide (k=6)):=rfl;by_cases a:k=1
 .subst a;exact fW
 by_cases b:k=2
 .subst b;exact fW
 by_cases c:k=3
 .subst c;exact fW
 by_cases d:k=4
 .subst d;exact fW
 by_cases f:k=5
 .subst f;exact fW
 by_cases g:k=6
 .subst g;exact fW
 have h:decide (k=1)=false:=by simpa using a
 have q:decide (k=2)=false:=by simpa using b
 have i:decide (k=3)=false:=by simpa using c
 have j:decide (k=4)=false:=by simpa using d
 have l:decide (k=5)=false:=by simpa using f
 have m:decide (k=6)=false:=by simpa using g
 have n:CP k=false:=by unfold CP;rw[decide_eq_false_iff_not];omega
 rw[o,p,n,h,i,j,l,m];exact fW
def HJ(W:Nat):List Vl:=[76,77,78,79,80,81].map fun n=> .func (.func n) #[nP (nM ⟨W,0,nN⟩)] #[]
theorem ZA(W:Nat)(w:Wl):Cl prog 43 #[nP (nM ⟨W,0,nN⟩)] w fun e w'=>e= nR (nS (nM ⟨w.heap.size,0,nN⟩) 6 6)/\Ac w' w.heap.size (HJ W) 119/\Chg w w' []:=by
 go_enter func43,ntmps43;go_wp2;refine bodyPost_ret (results_tmp rfl _ _ _) rfl ⟨rfl, ?_,by exact cg cR⟩;exact Ac.new w (HJ W) _
structure UH(w:Wl)(o:Bq)(path frm:List BY)(x:Tr)(slp slf vx:Vl)(bx:List Nat)(F F2:Nat->Prop):Prop where
 tpath:JC w F slp path
 tfrm:AO o.kind=true->JC w F2 slf frm
 val:AN o.kind=true->AP w x vx bx/\Bt x
 pathP:AD o.path=nM path
 frmP:AO o.kind=true->AD o.frm=nM frm
 small:o.frm.size<=16777216
theorem BC.mono{W:Nat}{d f:List Nat}{c:PV}{e:Ending}(h:BC W g d c w e w')(a:∀b,b∈d->b∈f):BC W g f c w e w':=by
 unfold BC at h|-;cases c with
 |no n=>exact⟨h.1,h.2.mono fun _ _=>a _⟩
 |yes r s=>
  obtain⟨v',i,q,xs,G,j,k,l,m,o,p⟩:=h;exact⟨v',i,q,xs,G,j,k,l,m.mono a,o.mono fun _ _=>a _,p⟩
theorem Z1(h:CP k=true):k=1\/k=2\/k=3\/k=4\/k=5\/k=6:=by
 unfold CP at h;have:=of_decide_eq_true h;omega
theorem z0i(h:p:=by rw[e];rfl):p:=h
theorem aD(W:Nat)(t:Tr)(v d:Vl)(bs:List Nat)(o:Bq)(path frm:List BY)(x:Tr)(sv slp z f:Vl)(g:List Nat)(F q:Nat->Prop)(w:Wl)(A:Br w)(B:Hu w W t v d bs)(a:UH w o path frm x slp z f g F q)(K:(W::(g++bs)).Nodup)(E:∀b,b∈W::(g++bs)->10<=b)(I:∀b,b∈W::(g++bs)->¬F b)(M:∀b,b∈W::(g++bs)->¬q b)(Q:CP o.kind=true):
  ∃n:Nat,(HJ W)[(o.kind-1).toNat]? =nM (.func (.func n) #[nP (nM ⟨W,0,nN⟩)] #[])/\
   Cl prog n #[nP (nM ⟨W,0,nN⟩),nA #[nI nX o.kind,nG o.path,nG o.frm,sv,slp,z,f]] w (BC W d (W::(g++bs)) (Da t o path frm x) w):=by
 have p:∀b,b∈W::bs->b∈W::(g++bs):=fun b m=>by
  rcases Qh.1 m with h|h
  .simp[h]
  .simp[h]
 have G:(W::bs).Nodup:=K.sublist Zh;obtain⟨l,c,rfl,_⟩:=a.tpath.row.cell;rw[Ao]at a|-;have C:UI W t v d bs F (nS l path.length c) path w:=⟨A,B,a.tpath,G,fun b m=>E b (p b m),fun b m=>I b (p b m)⟩;have D:AN o.kind=true->Sx W t x v d f bs g F (nS l path.length c) path w:=fun k=>⟨A,B,(a.val k).1,(a.val k).2,a.tpath,K,E,I⟩;rcases Z1 Q with e|e|e|e|e|e
 .refine⟨76,by rw[e];rfl, ?_⟩;have i:Da t o path frm x=Ga t path x []:=by unfold Da;rw[Qr e]
  rw[i];exact YG W t x v d f bs g F l c path _ _ _ sv z w (D z0i)
 .refine⟨77,by rw[e];rfl, ?_⟩;have i:Da t o path frm x=YN t path:=by unfold Da YN;rw[Qs Zj,Qr e];rfl
  rw[i];exact(Tw W t v d bs F l c path _ _ _ sv z f w C).mono fun e w' h=>h.mono p
 .refine⟨78,by rw[e];rfl, ?_⟩;have i:Da t o path frm x=Uq t path x:=by unfold Da Uq;rw[Qs Zj,Qs Zj,Qr e];rfl
  rw[i];exact Ry W t x v d f bs g F l c path _ _ _ sv z w (D z0i)
 .refine⟨79,by rw[e];rfl, ?_⟩;have i:Da t o path frm x=FR t o.path o.frm path frm:=by unfold Da FR;rw[Qs Zj,Qs Zj,Qs Zj,Qr e];rfl
  rw[i];have k:AO o.kind=true:=z0i
  have j:=a.tfrm k;have P:=a.frmP k;obtain⟨r,s,rfl,_⟩:=j.row.cell;rw[Ao]at j|-;have O:UI W t v d bs q (nS r frm.length s) frm w:=⟨A,B,j,G,fun b m=>E b (p b m),fun b m=>M b (p b m)⟩;by_cases hi:EV o.path o.frm=true
  .exact Rw W d sv f _ _ _ t path frm _ _ _ w a.small hi
  .have hi:EV o.path o.frm=false:=by simpa using hi
   cases y:Ah t frm with
   |none=>exact Rx W t v d f bs q r s path frm _ _ _ sv _ _ w A B j a.small hi y
   |some u=>
    by_cases H:o.path=o.frm
    .rw[H]at hi|-;exact(NH W t u v d f bs q r s path frm _ _ sv _ w A B G j a.small hi y).mono fun e w' h=>h.mono p
    .have R:frm≠[]:=fun L=>by
      have J:=(D7 P).1 L;rw[J]at hi;have N:=Jb a.pathP hi;exact H (by rw[J];exact(D7 a.pathP).1 N)
     exact(Pk W t u v d f bs F q l r c s path frm _ _ _ sv w C O R a.small hi H y).mono fun e w' h=>h.mono p
 .refine⟨80,by rw[e];rfl, ?_⟩;have i:Da t o path frm x=KV t path frm:=by unfold Da KV;rw[Qs Zj,Qs Zj,Qs Zj,Qs Zj,Qr e];rfl
  rw[i];have k:AO o.kind=true:=z0i
  have j:=a.tfrm k;obtain⟨r,s,rfl,_⟩:=j.row.cell;rw[Ao]at j|-;cases y:Ah t frm with
  |none=>exact(NF W t v d f bs F q l r c s path frm _ _ _ sv w C j y).mono fun e w' h=>h.mono p
  |some u=>exact(NG W t u v d f bs F q l r c s path frm _ _ _ sv w C j y).mono fun e w' h=>h.mono p
 .refine⟨81,by rw[e];rfl, ?_⟩;have i:Da t o path frm x=M6 t path x:=by unfold Da M6;rw[Qs Zj,Qs Zj,Qs Zj,Qs Zj,Qs Zj];rfl
  rw[i];have k:AN o.kind=true:=z0i
  exact Xr W t x v d f bs g F l c path _ _ _ sv z (a.val k).2.good w (D k)
theorem M9(t:Tr)(F:Nat->Prop)(d:Nat)(w:Wl)(h:CG w F d t)(g:∀b,F b->b<w.heap.size)(x:(Ag t).nodes<=65536):
  Cl prog 33 #[nP (nM ⟨d,0,nN⟩)] w (Ht t w):=by
 obtain⟨v,k,hi,u⟩:=h;have p:=UD (∀a,Chg w a []->Cl prog 54 #[nA #[v]] a (Ht t a)) fun a c=>Vt _ t F v a (Q8 _) x (hi.kept (c.keepsF g) (fun _ h=>h)) (fun b i=>Q6 (g b i) c.size);have o:=UD (∀a,Chg w a []->Cl prog 31 #[nP (nM ⟨d,0,nN⟩)] a fun e w'=>e= nR (nA #[v])/\Chg a w' []) fun a c=>IG F d v a (c.keeps k) (hi.iface) (Q6 u c.size);obtain⟨A,C,rfl⟩:=hi.iface;clear hi k g;go_enter func33,ntmps33
 go_wp2_with(first
  |(go_at_call 31;refine(o.o _ cR).mono ?_;rintro e B ⟨rfl,j⟩;have f:=hZ j;clear j)
  |(go_at_call 54;refine(p.o _ f.o).mono ?_;rintro e w2 ⟨y,G,rfl,l,m,n⟩;have q:=hZ l;have r:=hZ m;have s:=hZ n;clear l m n))
 refine bodyPost_ret (results_tmp rfl _ _ _) rfl ?_;have z:=f.o.size;exact⟨y,G,rfl,q.o,f.o.trans r.o,fun b i=>by have:=s.o b i;omega⟩
def dM(w:Wl):Prop:=∀m:Nat,m<6->w.cell? ⟨0,m,nN⟩=nM (nG (Ec (m+1)))
theorem dM.kept(h:dM w)(a:Chg w w' []):dM w':=fun m b=>a.keeps (h m b)
structure dQ(w0:Wl)(X b P:Nat)(TP:Ti)(C vs kl:List Vl)(w:Wl):Prop where
 ex:∃sl sk,dL w X b sl sk vs kl/\(∀g,sl.ownBlock=nM g->w0.heap.size<=g/\g≠P)/\(∀g,sk.ownBlock=nM g->w0.heap.size<=g/\g≠P)
 chg:Chg w0 w []
 pb:Ac w P C TP
 hb:w0.heap.size<=b
 np:P≠b
theorem dS(w0:Wl)(X b P:Nat)(TP:Ti)(C vs d:List Vl)(m:BY)(n:Ti)(x:Vl)(w:Wl)(h:dQ w0 X b P TP C vs d w)(v:vs.length<=65536)(u:d.length<=65536):
  Cl prog 46 #[nG m,nF n x,nP (nM ⟨X,0,nN⟩)] w fun e w'=>e= nR (nT #[])/\dQ w0 X b P TP C (vs++[nF n x]) (d++[nG m]) w':=by
 obtain⟨s,sk,H,f,j⟩:=h.ex;have z:=h.pb.lt;refine(dN X b s sk vs d m n x w H ⟨Zj,Zj⟩ ⟨Zj,Zj⟩).mono fun e w' ⟨p,t,r,q,o,i,k⟩=>⟨p,⟨⟨t,r,q,fun g l=> ?_,fun g l=> ?_⟩,h.chg.fresh o (fun y a=> ?_),h.pb.kept o (fun a=> ?_),h.hb,h.np⟩⟩
 .rcases i g l with c|c
  .exact f g c
  .have:=h.chg.size;exact⟨Zj,Zj⟩
 .rcases k g l with c|c
  .exact j g c
  .have:=h.chg.size;exact⟨Zj,Zj⟩
 .simp only[Qh,Qf,Option.mem_toList]at a;rcases a with rfl|a|a
  .exact h.hb
  .exact(f y a).1
  .exact(j y a).1
 .simp only[Qh,Qf,Option.mem_toList]at a;rcases a with a|a|a
  .exact h.np a
  .exact(f _ a).2 rfl
  .exact(j _ a).2 rfl
def dO(s:BY):Vl:= nF 131 (nA #[nF 127 (nG s)])
theorem dT(s:BY)(w:Wl):Cl prog 47 #[nG s] w fun e w'=>e= nR (dO s)/\w=w':=by
 go_enter func47,ntmps47;go_wp2_with fail;go_ret;exact⟨rfl,rfl⟩
theorem dR(w:Wl)(s:BY):AP w (.text s) (dO s) []:=by simp only[AP];exact⟨rfl,trivial⟩
theorem dV{s:BY}{r:List Vl}{a:List Nat}(h:PsAt w l r a):PsAt w (.text s::l) (dO s::r) a:=⟨_,_,[],a,rfl,dR w s,h,rfl⟩
theorem dQ.kept(h:dQ w0 X b P TP C vs c w)(a:Chg w w' []):dQ w0 X b P TP C vs c w':=by
 obtain⟨f,sk,H,d,e⟩:=h.ex;exact⟨⟨f,sk,⟨H.cell.kept a,H.blk.kept a,H.items.kept a,H.keys.kept a,H.ne,H.ni,H.nk⟩,d,e⟩,h.chg.trans a,h.pb.kept a,h.hb,h.np⟩
theorem dQ.facts{p f:BY}{d e v u:Vl}(h:dQ w0 X b P 78 [nI nX k,nG p,nG f,d,e,g,v] vs c w)(a:w0.cell? ⟨0,m,nN⟩=nM u):
  w.cell? ⟨P,0,nN⟩=nM (nI nX k)/\w.cell? ⟨P,1,nN⟩=nM (nG p)/\w.cell? ⟨P,2,nN⟩=nM (nG f)/\w.cell? ⟨P,6,nN⟩=nM v/\w.cell? ⟨X,0,nN⟩=nM (nP (nM ⟨b,0,nN⟩))/\w.cell? ⟨0,m,nN⟩=nM u:=by
 obtain⟨i,sk,H,_,_⟩:=h.ex;exact⟨h.pb.cell 0,h.pb.cell 1,h.pb.cell 2,h.pb.cell 6,H.cell.cell 0,h.chg.keeps a⟩
theorem dU{ks:List BY}{c:List Nat}(h:dQ w0 X b P TP C vs (Ad ks) w)(f:ks.length=l.length)(g:PsAt w l vs c):
  ∃bs,AP w (.obj ks l) (nF 123 (nP (nM ⟨b,0,nN⟩))) bs/\∀y,y∈bs->w0.heap.size<=y\/y∈c:=by
 obtain⟨i,sk,H,d,e⟩:=h.ex;refine⟨_,⟨b,i,sk,vs,c,rfl,H.blk,H.items,H.keys,f,g,rfl⟩,fun y a=> ?_⟩;simp only[Qh,Qf,Option.mem_toList]at a;rcases a with rfl|a|a|a
 .exact .inl h.hb
 .exact .inl (d y a).1
 .exact .inl (e y a).1
 .exact .inr a
def dP(k:Int)(p f:BY)(x:Tr)(a:List Nat)(w:Wl)(e:Ending)(w':Wl):Prop:=
 ∃v bs,e= nR v/\AP w' (Ze k.toNat p f x) v bs/\(∀y,y∈bs->w.heap.size<=y\/y∈a)/\Chg w w' []
theorem dX(h:true=AO ((m:Int)+1)):m+1=4\/m+1=5:=by unfold AO at h;simp at h;omega
theorem dY(h:true=AN ((m:Int)+1)):m+1=1\/m+1=3\/m+1=6:=by unfold AN at h;simp at h;omega
theorem dW(h:false=AO ((m:Int)+1)):¬(m+1=4\/m+1=5):=by unfold AO at h;simp at h;omega
theorem dZ(h:false=AN ((m:Int)+1)):¬(m+1=1\/m+1=3\/m+1=6):=by unfold AN at h;simp at h;omega
def eD(k:Int)(p f:BY)(sv slp a b:Vl):List Vl:=[nI nX k,nG p,nG f,sv,slp,a,b]
theorem ee(m:Nat)(p f:BY)(x:Tr)(C D E q:Vl)(d:List Nat)(w:Wl)(Y:m<6)(R:dM w)(T:AN ((m:Int)+1)=true->AP w x q d/\∀y,y∈d->y<w.heap.size):
  Cl prog 28 #[nA (eD ((m:Int)+1) p f C D E q).toArray] w (dP ((m:Int)+1) p f x d w):=by
 have af:∀(Q:Fn) (first cap:Array Vl) (w:Wl),(Instr.makeFunc Q first cap).run prog w= .ok (.func Q first cap) w:=fun _ _ _ _=>rfl;have o:=R m Y;have W:=hZ T;have ab:(0:Int)<=(m:Int):=Zj;have ae:(m:Int)<6:=Zj;have ad:(m:Int)+1-1=(m:Int):=Zj;obtain⟨uf,u⟩:=Ue (AO ((m:Int)+1));obtain⟨uv,v⟩:=Ue (AN ((m:Int)+1));have k:=hZ u;have n:=hZ v;have I:=hZ (fun w=>Jm ((m:Int)+1) w);rw[<-u,<-v]at I;obtain⟨U,z⟩:=Ue (((w.alloc (nC #[nI nX ((m:Int)+1),nG p,nG f,C,D,E,q] 78)).alloc (nC #[nS nN 0 0,nS nN 0 0] 125)).alloc (nC #[nP (nM ⟨w.heap.size+1,0,nN⟩)] 123));have J:=hZ z
 have S:dQ w (w.heap.size+1+1) (w.heap.size+1) w.heap.size 78 [nI nX ((m:Int)+1),nG p,nG f,C,D,E,q] [] [] U:=by
  rw[z];refine⟨⟨nS nN 0 0,nS nN 0 0,⟨BD _ _ _ _ _ rfl Zh,(BD _ _ _ _ _ rfl Zh).alloc _,World.ownsRow_nil _ 0 _ 1,World.ownsRow_nil _ 0 _ 1,Zj,(fun g c=>by cases c),(fun g c=>by cases c)⟩,(fun g c=>by cases c),(fun g c=>by cases c)⟩,(((Chg.refl w []).alloc _).alloc _).alloc _,((Ac.new w _ _).alloc _).alloc _,Zj,Zj⟩
 have H:=hZ S;clear R T u v z S;go_enter func28,ntmps28;unfold eD;go_wp2_with fail;rw[<-J.o];refine(I.o U).mono ?_;rintro e w1 ⟨rfl,t⟩;have a:=hZ (H.o.kept t);obtain⟨c0,c1,c2,c3,c4,c5⟩:=a.o.facts o;clear t H J;have s:((m:Int)+1).toNat=m+1:=Zj;cases uf<;>cases uv
 .go_wp2_with(first
 |(go_at_call 47;refine(dT _ _).mono ?_;rintro e V ⟨rfl,rfl⟩;unfold dO)
 |(go_at_call 46;refine(dS w _ _ _ _ _ _ _ _ _ _ _ a.o Zh Zh).mono ?_;rintro e r ⟨rfl,b⟩;obtain⟨K,L,M,N,O,P⟩:=b.facts o;clear a;have a:=hZ b;clear b))
  go_ret;obtain⟨bs,i,j⟩:=dU (ks:=[SB,Fj]) (l:=[.text (Ec (m+1)),.text p]) (vs:=[dO (Ec (m+1)),dO p]) a.o rfl (dV (dV ⟨rfl,rfl⟩));refine⟨_,bs,rfl, ?_,fun y B=>(j y B).imp id (fun h=>by cases h),a.o.chg⟩;rw[s];unfold Ze;rw[Qs (dW k.o),Qs (dZ n.o)];exact i
 .obtain⟨A,Z⟩:=W.o n.o.symm;obtain⟨F,G,rfl⟩:=A.iface;have X:=hZ A;clear A Z
  go_wp2_with(first
 |(go_at_call 47;refine(dT _ _).mono ?_;rintro e V ⟨rfl,rfl⟩;unfold dO)
 |(go_at_call 46;refine(dS w _ _ _ _ _ _ _ _ _ _ _ a.o Zh Zh).mono ?_;rintro e r ⟨rfl,b⟩;obtain⟨K,L,M,N,O,P⟩:=b.facts o;clear a;have a:=hZ b;clear b))
  go_ret;have aa:AP r x (nF F G) d:=X.o.chg a.o.chg Zh;obtain⟨bs,i,j⟩:=dU (ks:=[SB,Fj,SZ]) (l:=[.text (Ec (m+1)),.text p,x]) (vs:=[dO (Ec (m+1)),dO p,nF F G]) a.o rfl (show PsAt r [.text (Ec (m+1)),.text p,x] [dO (Ec (m+1)),dO p,nF F G] d from dV (dV ⟨_,[],d,[],rfl,aa,⟨rfl,rfl⟩,Zh⟩));refine⟨_,bs,rfl, ?_,j,a.o.chg⟩;rw[s];unfold Ze;rw[Qs (dW k.o),Qr (dY n.o)];exact i
 .go_wp2_with(first
 |(go_at_call 47;refine(dT _ _).mono ?_;rintro e V ⟨rfl,rfl⟩;unfold dO)
 |(go_at_call 46;refine(dS w _ _ _ _ _ _ _ _ _ _ _ a.o Zh Zh).mono ?_;rintro e r ⟨rfl,b⟩;obtain⟨K,L,M,N,O,P⟩:=b.facts o;clear a;have a:=hZ b;clear b))
  go_ret;obtain⟨bs,i,j⟩:=dU (ks:=[Oa,SB,Fj]) (l:=[.text f,.text (Ec (m+1)),.text p]) (vs:=[dO f,dO (Ec (m+1)),dO p]) a.o rfl (dV (dV (dV ⟨rfl,rfl⟩)));refine⟨_,bs,rfl, ?_,fun y B=>(j y B).imp id (fun h=>by cases h),a.o.chg⟩;rw[s];unfold Ze;rw[Qr (dX k.o)];exact i
 .exfalso
  have t:=dX k.o;have h2:=dY n.o;omega
end
end Go.Proofs.YtamgbmcchhmojaaGreatDoor

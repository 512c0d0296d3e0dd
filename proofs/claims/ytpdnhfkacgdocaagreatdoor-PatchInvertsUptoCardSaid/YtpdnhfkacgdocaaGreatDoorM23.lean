/- Part 23 of the proof of both cards. -/
import Derived.Test.YtpdnhfkacgdocaaGreatDoorM22
set_option maxRecDepth 100000
set_option maxHeartbeats 32000000
set_option linter.all false
namespace Go.Proofs.YtpdnhfkacgdocaaGreatDoor
open Go renaming Calls->Cl,TypeId->Ti,Value->Vl,World->Wl
open Go.Value renaming agg->nA,int->nI,pointer->nP,slice->nS,string->nG,tuple->nT
open Go.IntKind renaming i64->nX
open Go.Ending renaming returned->nR
open Go.Obj renaming cells->nC
open Option renaming none->nN,some->nM
section
open _root_.Go.Proofs.Tryz
open Go Go.Shelf Go.RowKit Go.Lib Tree Ptr
variable{b g:Nat}{p:Prop}{w:Wl}
theorem Ba.setK{n c sz i:Nat}{e:Ti}{xs vs:List Vl}(h:Ba w (nS (nM ⟨g,0,nN⟩) n c) e sz n xs)(J:vs.length=sz)(hi:i<n):w.there g (i*sz) vs.length/\Ba (w.setCells g (i*sz) vs) (nS (nM ⟨g,0,nN⟩) n c) e sz n (xs.take (i*sz)++(vs++xs.drop ((i+1)*sz))):=by
 obtain⟨F,h⟩:=h;rcases h with⟨b,_⟩|⟨C,cap,a,y,v,x,o,s,t,u⟩
 .injection b with b;cases b
 .injection y with d A r
  injection d with d
  injection d with d B
  subst d;subst r;have f:Ac w g a.toList e:=by unfold Ac;simpa using x
  have D:a.toList.length=c*sz:=by simpa using t
  have G:(i+1)*sz<=n*sz:=Nat.mul_le_mul_right _ Zj;have H:n*sz<=c*sz:=Nat.mul_le_mul_right _ o;have I:(i+1)*sz=i*sz+sz:=Nat.succ_mul i sz;have p:(a.toList.take (i*sz)).length=i*sz:=by rw[Ql];omega
  refine⟨fun j E=>⟨by rw[f.cell,Q9 Zj];rfl,f.frozen _⟩, ?_,.inr ⟨g,c,(a.toList.take (i*sz)++(vs++a.toList.drop (i*sz+vs.length))).toArray,rfl,v,Ac.setCells vs (i*sz) a.toList w f Zj,o,s, ?_, ?_⟩⟩
  .simp only[Qk,Ql,Qm];omega
  .simp only[List.size_toArray,Qk,Ql,Qm];omega
  .rw[<-u];apply List.ext_getElem?;intro k;rw[List.getElem?_take];have z:(a.toList.take (n*sz)).length=n*sz:=by rw[Ql];omega
   by_cases l:k<n*sz
   .rw[Qr l];by_cases b:k<i*sz
    .rw[List.getElem?_append_left Zj,List.getElem?_append_left (by rw[Ql];omega),List.getElem?_take_of_lt b,List.getElem?_take_of_lt b,List.getElem?_take_of_lt l]
    .have q:(List.take (i*sz) (a.toList.take (n*sz))).length=i*sz:=by rw[Ql,z];omega
     rw[List.getElem?_append_right (l₁:=a.toList.take (i*sz)) (by rw[p];omega),List.getElem?_append_right (l₁:=List.take (i*sz) (a.toList.take (n*sz))) (by rw[q];omega),p,q];by_cases m:k-i*sz<vs.length
     .rw[List.getElem?_append_left m,List.getElem?_append_left m]
     .rw[List.getElem?_append_right Zj,List.getElem?_append_right Zj,List.getElem?_drop,List.getElem?_drop,List.getElem?_take_of_lt Zj]
      congr 1;omega
   .rw[Qs l,List.getElem?_eq_none];simp only[Qk,Ql,Qm];omega
theorem qY(h:b∈(Vl.slice (nM ⟨g,0,nN⟩) 0 0).ownBlock.toList):g=b:=(List.mem_singleton.1 (show b∈[g]from h)).symm
theorem qv{sv:Vl}(h:b∈sv.ownBlock.toList):sv.ownBlock=nM b:=by simpa using h
theorem sT{l:List Tr}{s:BY}{x:Tr}(h:Gg s (.list l)=0):∃j,j<=l.length/\pV 1 (.list l) s=((j:Int),false)/\Cj s x (.list l)= .list (l.insertIdx j x):=by
 by_cases b:s=IN
 .refine⟨l.length,Q8 _, ?_, ?_⟩
  .show(if(1:Nat)=1 then(if s=IN then((l.length:Int),false)else(pJ s (l.length+1),false))else(pJ s l.length,true))=_
   rw[Qr rfl,Qr b]
  .show(if s=IN then Tr.list (l++[x])else _)=_
   rw[Qr b,List.insertIdx_length_self]
 .have a:(match D5 s.data.toList with
   |none=>172
   |some k=>if k<l.length+1 then 0 else 4)=0:=by
   have:Gg s (.list l)=if s=IN then 0 else match D5 s.data.toList with
    |none=>172
    |some k=>if k<l.length+1 then 0 else 4:=rfl
   rw[this,Qs b]at h;exact h
  cases c:D5 s.data.toList with
  |none=>rw[c]at a;cases a
  |some k=>
   rw[c]at a;by_cases d:k<l.length+1
   .have hi:bL s (l.length+1)=nM k:=by unfold bL;rw[c];simp only;rw[Qr d]
    refine⟨k,Zj, ?_, ?_⟩
    .show(if(1:Nat)=1 then(if s=IN then((l.length:Int),false)else(pJ s (l.length+1),false))else(pJ s l.length,true))=_
     rw[Qr rfl,Qs b];unfold pJ;rw[hi]
    .show(if s=IN then Tr.list (l++[x])else match bL s (l.length+1)with
      |some i=> .list (l.insertIdx i x)
      |none=> .list l)=_
     rw[Qs b,hi]
   .simp only at a;rw[Qs d]at a;cases a
def vj(Q A n j:Nat)(d:Option Addr)(f:Nat)(us:List Vl)(k:Nat)(y:Vl)(O:Nat->Prop)(w:Wl):Prop:=match k with
 |0=>y=(nP (nM ⟨Q,4,nN⟩))
 |1=>y=(nS nN 0 0)
 |2=>y=(nP (nM ⟨A,4,nN⟩))
 |3=>y=(nS d n f)
 |4=>y=(nI nX j)
 |7=>y=(nP (nM ⟨Q,4,nN⟩))
 |5=>∃b e,y= nS b j e/\(j=0\/b=d)
 |6=>∃a c,y= nS a j c/\Ba w y 29 6 j us/\∀g,y.ownBlock=nM g->O g
 |8=>∃a c,Ac w Q [nI nX 5,.bool false,nI .u64 0,nG ⟨#[]⟩,nS a j c,nS nN 0 0] 29/\Ba w (nS a j c) 29 6 j us/\O Q/\∀g,(Vl.slice a j c).ownBlock=nM g->O g/\g≠Q
 |_=>True
def vE(k:Nat):Option Nat:=if k=6 then nM 8 else nN
def vf(Q:Nat)(b:Nat):Option Nat:=if b=Q then nM 8 else nN
theorem vj.stays(q:Wl)(Q A n j:Nat)(o:Option Addr)(p:Nat)(us:List Vl):pR q (vf Q) (vj Q A n j o p us):=fun k y O w w' h f _=>by
 match k,h with
 |0,h=>exact h
 |1,h=>exact h
 |2,h=>exact h
 |3,h=>exact h
 |4,h=>exact h
 |5,h=>exact h
 |6,⟨a,c,e,d,b⟩=>exact⟨a,c,e,d.sameB (fun g i=>f g (b g i)),b⟩
 |7,h=>exact h
 |8,⟨a,c,d,b,l,m⟩=>exact⟨a,c,d.sameB (f Q l),b.sameB (fun g i=>f g (m g i).1),l,m⟩
 |_+9,h=>exact h
def vk(Q A n j:Nat)(m o:Option Addr)(r q:Nat)(us vs:List Vl)(b d e f h i:Vl)(k:Nat)(y:Vl)(O:Nat->Prop)(w:Wl):Prop:=match k with
 |0=>y=(nP (nM ⟨Q,4,nN⟩))
 |1=>y=(nS o j q)
 |2=>y=(nA #[b,d,e,f,h,i])
 |5=>y=(nP (nM ⟨A,4,nN⟩))
 |6=>y=(nS m n r)
 |7=>y=(nI nX j)
 |10=>y=(nP (nM ⟨Q,4,nN⟩))
 |3=>∃g,y= nS (nM ⟨g,0,nN⟩) 1 1/\Ac w g [b,d,e,f,h,i] 29/\O g
 |4=>∃a c,y= nS a (j+1) c/\Ba w y 29 6 (j+1) (us++[b,d,e,f,h,i])/\∀g,y.ownBlock=nM g->O g
 |8=>∃l p,y= nS l (n-j) p/\(n=j\/l=Option.map (fun x=>x.add (j*6)) m)
 |9=>∃a c,y= nS a (j+1+(n-j)) c/\Ba w y 29 6 (j+1+(n-j)) (us++[b,d,e,f,h,i]++vs)/\∀g,y.ownBlock=nM g->O g
 |11=>∃a c,Ac w Q [nI nX 5,.bool false,nI .u64 0,nG ⟨#[]⟩,nS a (j+1+(n-j)) c,nS nN 0 0] 29/\Ba w (nS a (j+1+(n-j)) c) 29 6 (j+1+(n-j)) (us++[b,d,e,f,h,i]++vs)/\O Q/\∀g,(Vl.slice a (j+1+(n-j)) c).ownBlock=nM g->O g/\g≠Q
 |_=>True
def vB(k:Nat):Option Nat:=if k=4 then nM 9 else if k=9 then nM 11 else nN
def ve(Q:Nat)(sv:Vl)(b:Nat):Option Nat:=if b=Q then nM 11 else if sv.ownBlock=nM b then nM 4 else nN
theorem vk.stays(B:Wl)(T:Nat->Option Nat)(Q A n j:Nat)(x o:Option Addr)(z p:Nat)(us vs:List Vl)(q r s t u v:Vl):pR B T (vk Q A n j x o z p us vs q r s t u v):=fun k y O w w' h f _=>by
 match k,h with
 |0,h=>exact h
 |1,h=>exact h
 |2,h=>exact h
 |3,⟨g,e,d,b⟩=>exact⟨g,e,d.sameB (f g b),b⟩
 |4,⟨a,c,e,d,b⟩=>exact⟨a,c,e,d.sameB (fun g i=>f g (b g i)),b⟩
 |5,h=>exact h
 |6,h=>exact h
 |7,h=>exact h
 |8,h=>exact h
 |9,⟨a,c,e,d,b⟩=>exact⟨a,c,e,d.sameB (fun g i=>f g (b g i)),b⟩
 |10,h=>exact h
 |11,⟨a,c,d,b,l,m⟩=>exact⟨a,c,d.sameB (f Q l),b.sameB (fun g i=>f g (m g i).1),l,m⟩
 |_+12,h=>exact h
def vl(A n:Nat)(d f:Option Addr)(e h:Nat)(b xs:List Vl)(k:Nat)(y:Vl)(O:Nat->Prop)(w:Wl):Prop:=match k with
 |1=>y=(nP (nM ⟨A,5,nN⟩))
 |2=>y=(nS d n e)
 |5=>y=(nP (nM ⟨A,4,nN⟩))
 |6=>y=(nS f n h)
 |0=>∃g,y= nS (nM ⟨g,0,nN⟩) 0 0/\Ba w y 9 1 0 []/\O g
 |3=>∃a c,y= nS a n c/\Ba w y 9 1 n b/\∀g,y.ownBlock=nM g->O g
 |4=>∃g,y= nS (nM ⟨g,0,nN⟩) 0 0/\Ba w y 29 6 0 []/\O g
 |7=>∃a c,y= nS a n c/\Ba w y 29 6 n xs/\∀g,y.ownBlock=nM g->O g
 |8=>∃a c,y= nS a n c/\Ba w y 9 1 n b/\∀g,y.ownBlock=nM g->O g
 |9=>∃a c,y= nS a n c/\Ba w y 29 6 n xs/\∀g,y.ownBlock=nM g->O g
 |_=>True
def vq(k:Nat):Option Nat:=if k=0 then nM 3 else if k=3 then nM 8 else if k=4 then nM 7 else if k=7 then nM 9 else nN
def vh(_:Nat):Option Nat:=nN
theorem z2k(h:p:=by rw[e]at d;have:g=j:=Q5 d;rw[<-this];exact b):p:=h
theorem vl.stays(r:Wl)(A n:Nat)(l p:Option Addr)(m q:Nat)(o xs:List Vl):pR r vh (vl A n l p m q o xs):=fun k y O w w' h i _=>by
 match k,h with
 |0,⟨g,e,f,b⟩=>exact⟨g,e,f.sameB (fun j d=>i j z2k),b⟩
 |1,h=>exact h
 |2,h=>exact h
 |3,⟨a,c,e,f,b⟩=>exact⟨a,c,e,f.sameB (fun g d=>i g (b g d)),b⟩
 |4,⟨g,e,f,b⟩=>exact⟨g,e,f.sameB (fun j d=>i j z2k),b⟩
 |5,h=>exact h
 |6,h=>exact h
 |7,⟨a,c,e,f,b⟩=>exact⟨a,c,e,f.sameB (fun g d=>i g (b g d)),b⟩
 |8,⟨a,c,e,f,b⟩=>exact⟨a,c,e,f.sameB (fun g d=>i g (b g d)),b⟩
 |9,⟨a,c,e,f,b⟩=>exact⟨a,c,e,f.sameB (fun g d=>i g (b g d)),b⟩
 |_+10,h=>exact h
def vr(F:Nat->Prop)(E:Tr)(R n m o r:Nat)(ak ai:Option Addr)(p ci:Nat)(s:BY)(q xs:List Vl)(e f h i j l:Vl)(k:Nat)(y:Vl)(O:Nat->Prop)(w:Wl):Prop:=match k with
 |0=>y=(nS ak n p)
 |1=>y=(nS (nM ⟨m,o,nN⟩) 1 r)
 |2=>y=(nP (nM ⟨m,o,nN⟩))
 |3=>y=(nG s)
 |6=>y=(nS ai n ci)
 |7=>y=(nA #[e,f,h,i,j,l])
 |4=>∃g,y= nS (nM ⟨g,0,nN⟩) 1 1/\Ac w g [nG s] 9/\O g
 |8=>∃g,y= nS (nM ⟨g,0,nN⟩) 1 1/\Ac w g [e,f,h,i,j,l] 29/\O g
 |5=>∃a c,y= nS a (n+1) c/\Ba w y 9 1 (n+1) (q++[nG s])/\∀g,y.ownBlock=nM g->O g
 |9=>∃a c,y= nS a (n+1) c/\Ba w y 29 6 (n+1) (xs++[e,f,h,i,j,l])/\∀g,y.ownBlock=nM g->O g
 |10=>∃(d:Nat->Prop) (cs:List Vl),y= nA cs.toArray/\AL w d E cs/\∀b,d b->F b\/O b
 |11=>∃(d:Nat->Prop) (cs:List Vl),Ac w R cs 29/\cs.length=6/\AL w d E cs/\(∀b,d b->F b\/O b)/\O R/\¬d R
 |_=>True
def vt(k:Nat):Option Nat:=if k=10 then nM 11 else nN
def uZ(R:Nat)(sk a:Vl)(b:Nat):Option Nat:=if b=R then nM 11 else if sk.ownBlock=nM b then nM 5 else if a.ownBlock=nM b then nM 9 else nN
theorem re{F:Nat->Prop}{w':Wl}(h:∀b,F b->w'.heap[b]? =w.heap[b]?):BZ F w w':=fun b o c=>by
 have a:=h b c;unfold World.cell?;simp only[a]
theorem vr.stays(r:Wl)(T:Nat->Option Nat)(F:Nat->Prop)(E:Tr)(R n K M L:Nat)(ak ai:Option Addr)(t ci:Nat)(s:BY)(J xs:List Vl)(u v x z A B:Vl)(p:∀b,F b->b<r.heap.size/\T b=nN):pR r T (vr F E R n K M L ak ai t ci s J xs u v x z A B):=fun k y O w w' h j H=>by
 have q:∀{i:Nat->Prop},(∀b,i b->F b\/O b)->BZ i w w':=fun G=>re fun b I=>by
  rcases G b I with h|h
  .exact H b (p b h).1 (p b h).2
  .exact j b h
 match k,h with
 |0,h=>exact h
 |1,h=>exact h
 |2,h=>exact h
 |3,h=>exact h
 |4,⟨g,e,f,d⟩=>exact⟨g,e,f.sameB (j g d),d⟩
 |5,⟨a,c,e,f,d⟩=>exact⟨a,c,e,f.sameB (fun g l=>j g (d g l)),d⟩
 |6,h=>exact h
 |7,h=>exact h
 |8,⟨g,e,f,d⟩=>exact⟨g,e,f.sameB (j g d),d⟩
 |9,⟨a,c,e,f,d⟩=>exact⟨a,c,e,f.sameB (fun g l=>j g (d g l)),d⟩
 |10,⟨i,cs,e,f,d⟩=>exact⟨i,cs,e,AL.kept (q d) (fun _ h=>h) _ _ f,d⟩
 |11,⟨i,cs,f,d,C,m,o,D⟩=>exact⟨i,cs,f.sameB (j R o),d,AL.kept (q m) (fun _ h=>h) _ _ C,m,o,D⟩
 |_+12,h=>exact h
theorem z1z(h:p:=by go_simp;exact G _ _ Zh (c.val aa.o f rfl)):p:=h
theorem z2a(h:p:=by go_simp;exact G _ _ Zh (c.val ae.o f rfl)):p:=h
theorem z2b(h:p:=by go_simp;exact G _ _ Zh (c.val ag.o f rfl)):p:=h
theorem z2c(h:p:=by go_simp;exact G _ _ Zh (c.new ag.o f ((Chg.refl t []).alloc _) (O':=fun b=>b=t.heap.size) ⟨t.heap.size,rfl,Ac.new _ _ _,rfl⟩ (fun b d=>by subst d;exact⟨Q8 _,Zh⟩))):p:=h
theorem z2d(h:p:=by obtain⟨O,c⟩:=r;have h4:rS a 4=(nP (nM ⟨A,0,nN⟩)):=U.at 4 Yb;exact z1z):p:=h
theorem z2e(h:p:=by intro u hu;simp only[Qh,List.not_mem_nil,or_false]at hu;rcases hu with rfl|rfl|rfl|rfl|rfl|rfl<;>rfl):p:=h
theorem z2f(h:p:=by have:=aC.o;simp;omega):p:=h
theorem z2g(h:p:=by obtain⟨zl,zf,z0,z1,z2,z3,z4,z5⟩:=(c.blk aN.o (lq (u:=vh) rfl)).cells6;exact z1z):p:=h
theorem z2h(h:p:=by obtain⟨O,c⟩:=r;have h9:rS a 9=(nP (nM ⟨Q,0,nN⟩)):=U.at 9 Yb;exact z1z):p:=h
theorem z2i(h:p:=by obtain⟨O,c⟩:=r;have h9:rS a 9=(nP (nM ⟨Q,0,nN⟩)):=U.at 9 Yb;exact z2a):p:=h
theorem z2j(h:p:=by have:=ad.o;omega):p:=h
theorem z2l(h:p:=by
 injection e2 with e2
 rw[<-e2,f]at k2;cases k2):p:=h
theorem z2m(h:p:=by have:=aC.o;omega):p:=h
theorem uU(s:BY)(ks:List BY)(l:List Tr)(x E:Tr)(F:Nat->Prop)(Z ka:Option Addr)(lc kc kn n j:Nat)(so:Int)(th:Bool)(ab xs:List Vl)(L M N P S T:Vl)(tb ao tc:Nat)(w:Wl)(dJ:(so=5/\kn=0/\Hid (E= .list (l.insertIdx j x)/\j<=n/\n<=lc))\/(so=6/\n=kn/\Hid ((th=true->j<l.length/\E=D1 ks (l.set j x))/\(th=false->E=D1 (ks++[s]) (l++[x]))/\(∀k∈ks++[s],JA k)/\(ks.Nodup/\(th=false->(ks++[s]).Nodup))/\(∀i v,ab[i]? =nM v->∃b o,ka=nM ⟨b,o,nN⟩/\w.cell? ⟨b,o+i,nN⟩=nM v)/\ab=Ad ks/\ks.length=n)))(HN:Hid (n=l.length))(ah:n<65536)(ck:Hid (∀wx,Chg w wx []->Cl prog 85 #[nA #[nI nX so,.bool false,nI .u64 0,nG ⟨#[]⟩,nS Z n lc,nS ka kn kc],nG s,nI nX 0] wx fun e w'=>(∃(i:Int) (b:Bool),e= nR (nT #[nI nX i,.bool b]))/\Chg wx w' []))(cl:Hid (∀wx,Chg w wx []->Cl prog 85 #[nA #[nI nX so,.bool false,nI .u64 0,nG ⟨#[]⟩,nS Z n lc,nS ka kn kc],nG s,nI nX 1] wx fun e w'=>e= nR (nT #[nI nX j,.bool th])/\Chg wx w' []))(bQ:Hid (LP w F Z xs))(aq:Hid (Aq w F l xs))(bV:Hid (AL w F x [L,M,N,P,S,T]))(HF:Hid (∀b,F b->b<w.heap.size))(HO:Hid (∀u∈[L,M,N,P,S,T],u.oneCell'=true))(aA:w.cell? ⟨tb,ao,nN⟩=nM (nG s)):
  Cl prog 47 #[nA #[nI nX so,.bool false,nI .u64 0,nG ⟨#[]⟩,nS Z n lc,nS ka kn kc],nS (nM ⟨tb,ao,nN⟩) 1 tc,nI nX 1,nA #[L,M,N,P,S,T]] w (qq F E w):=by
 have dB:n<=65536:=Zj;have ch:=UD (n+1<=65536) Zj;obtain⟨w0,aK⟩:=Ue (((w.alloc (nC #[nI nX so,.bool false,nI .u64 0,nG ⟨#[]⟩,nS Z n lc,nS ka kn kc] 29)).alloc (nC #[L,M,N,P,S,T] 29)).alloc (nC zV.toArray 29));have H0:Hid (Chg w w0 []):=by rw[aK];exact hZ ((((Chg.refl w []).alloc _).alloc _).alloc _)
 have aM:Hid (Ac w0 w.heap.size [nI nX so,.bool false,nI .u64 0,nG ⟨#[]⟩,nS Z n lc,nS ka kn kc] 29):=by rw[aK];exact hZ (((Ac.new w _ _).alloc _).alloc _)
 have bU:Hid (Ac w0 (w.heap.size+1) [L,M,N,P,S,T] 29):=by rw[aK];exact hZ ((BD _ _ [_,_,_,_,_,_] _ _ rfl Zh).alloc _)
 have bO:Hid (Ac w0 (w.heap.size+1+1) zV 29):=by rw[aK];exact hZ (BD _ _ zV _ _ rfl Zh)
 have dM:w0.heap.size=w.heap.size+1+1+1:=by rw[aK];simp
 go_enter func47,ntmps47;go_upto_region 1 with(fail);change Code.wp _ _ _ _ (((w.alloc (nC #[nI nX so,.bool false,nI .u64 0,nG ⟨#[]⟩,nS Z n lc,nS ka kn kc] 29)).alloc (nC #[L,M,N,P,S,T] 29)).alloc (nC zV.toArray 29));rw[<-aK];obtain⟨A,hA⟩:=Ue w.heap.size
 obtain⟨X,hX⟩:=Ue (w.heap.size+1);obtain⟨R,hR⟩:=Ue (w.heap.size+1+1);have aw:=UD (w.heap.size<=A/\A<X/\X<R/\R<w0.heap.size) ⟨Zj,Zj,Zj,Zj⟩;rw[<-hR]at bO|-;rw[<-hX]at bU|-;rw[<-hA]at aM|-;clear aK dM hA hX hR;obtain⟨al,af,a0,a1,C,a3,a4,a5⟩:=aM.o.cells6;go_upto_region 4 with(refine kM (ds:=[nI nX so,.bool false,nI .u64 0,nG ⟨#[]⟩,nS nN 0 0,nS nN 0 0]) w0 z2e ?_;intro w2 bH H2);obtain⟨Q,hQ⟩:=Ue w0.heap.size
 have aQ:=UD (w0.heap.size<=Q) (Nat.le_of_eq hQ.symm);rw[<-hQ]at bH|-;clear hQ al af a0 a1 C a3 a4 a5;obtain⟨al,af,a0,a1,C,a3,a4,a5⟩:=(aM.o.kept H2.o).cells6;have aH:=(H0.o.trans H2.o).keeps aA
 go_region_held3(fun w'=>w'.cell? ⟨A,0,nN⟩=nM (nI nX so)/\w'.cell? ⟨A,1,nN⟩=nM (.bool false)/\w'.cell? ⟨A,2,nN⟩=nM (nI .u64 0)/\w'.cell? ⟨A,3,nN⟩=nM (nG ⟨#[]⟩)/\w'.cell? ⟨A,4,nN⟩=nM (nS Z n lc)/\w'.cell? ⟨A,5,nN⟩=nM (nS ka kn kc)/\w'.cell? ⟨tb,ao,nN⟩=nM (nG s)) (first|exact⟨a0,a1,C,a3,a4,a5,aH⟩|exact⟨h3.keeps a0,h3.keeps a1,h3.keeps C,h3.keeps a3,h3.keeps a4,h3.keeps a5,h3.keeps aH⟩)
  ((go_at_call 85;refine(ck.o _ (Chg.trans (b:=_) (H0.o.trans H2.o) (by exact cg cR))).mono ?_;rintro e w3 ⟨⟨pi,pb,rfl⟩,cx⟩;have h3:Chg w2 w3 []:=ct cR cx;clear cx))
 have H3:=hZ (H2.o.trans h3);have b9:=hZ (bH.o.kept h3);clear h3 al af a0 a1 C a3 a4 a5 aH bH H2 ck;go_upto_region 17 with(fail);obtain⟨al,af,a0,a1,C,a3,a4,a5⟩:=(aM.o.kept H3.o).cells6;have aH:=(H0.o.trans H3.o).keeps aA
 go_region_held3(fun w'=>w'.cell? ⟨A,0,nN⟩=nM (nI nX so)/\w'.cell? ⟨A,1,nN⟩=nM (.bool false)/\w'.cell? ⟨A,2,nN⟩=nM (nI .u64 0)/\w'.cell? ⟨A,3,nN⟩=nM (nG ⟨#[]⟩)/\w'.cell? ⟨A,4,nN⟩=nM (nS Z n lc)/\w'.cell? ⟨A,5,nN⟩=nM (nS ka kn kc)/\w'.cell? ⟨tb,ao,nN⟩=nM (nG s)) (first|exact⟨a0,a1,C,a3,a4,a5,aH⟩|exact⟨h5.keeps a0,h5.keeps a1,h5.keeps C,h5.keeps a3,h5.keeps a4,h5.keeps a5,h5.keeps aH⟩)
  ((go_at_call 85;refine(cl.o _ (Chg.trans (b:=_) (H0.o.trans H3.o) (by exact cg cR))).mono ?_;rintro e J ⟨rfl,cy⟩;have h5:Chg w3 J []:=ct cR cy;clear cy))
 have H5:=UD (Chg w0 J []) (H3.o.trans h5);have aD:=hZ (b9.o.kept h5);have aN:=hZ (aM.o.kept H5.o);have bu:=hZ (bU.o.kept H5.o);have a2:=hZ (bO.o.kept H5.o);have aC:=UD (A<Q/\X<Q/\R<Q) (by have W:=aw.o;have h2:=aQ.o;omega);clear ah h5 al af a0 a1 C a3 a4 a5 aH b9 H3 cl aM bU bO;obtain⟨al,af,a0,a1,C,a3,a4,a5⟩:=aN.o.cells6;rcases dJ with⟨rfl,rfl,HW⟩|⟨rfl,rfl,HW⟩
 .obtain⟨rfl,bC,b3⟩:=HW.o;have ad:=hZ bC;have ca:=hZ b3;clear b3 HW ch;go_upto_region 24 with(fail);clear al af a0 a1 C a3 a4 a5;obtain⟨us,bk⟩:=Ue (xs.take (j*6))
  have cq:=hZ bk;have aa:=UD (pR J (vf Q) (vj Q A n j Z lc us)) (vj.stays J Q A n j Z lc us);have aB:xs.length=6*l.length:=aq.o.length;have db:=UD (us.length=j*6) (by rw[bk,Ql,aB,<-HN.o];have:=ad.o;omega);have da:=UD (∀u∈us,u.oneCell'=true) fun u hu=>by rw[bk]at hu;exact aq.o.ones u (List.mem_of_mem_take hu)
  have an:Chg w J []:=H0.o.trans H5.o
  have c6:=UD (∀i v,us[i]? =nM v->∃B V,Z=nM ⟨B,V,nN⟩/\B≠Q/\∀wx,Chg J wx []->wx.cell? ⟨B,V+i,nN⟩=nM v) fun i v H=>by
   rw[bk]at H;have hi:=(Qc.1 H).1;rw[Ql]at hi;rw[List.getElem?_take_of_lt Zj]at H;rcases bQ.o with h|⟨b,o,e,_,hc⟩
   .rw[h]at H;simp at H
   .exact⟨b,o,e,(by have W:b<w.heap.size:=World.block_lt_of_cell? _ _ (hc i v H);have h2:=aw.o;have h3:=aQ.o;omega),fun wx hx=>(an.trans hx).keeps (hc i v H)⟩
  clear bk aB an;refine uW (qF J (vf Q) vE (vj Q A n j Z lc us)) ?_ ?_ ?_
  .intro ii op a t dd ho U f p az r K G
   match ii,ho with
    |0,rfl=>
     exact z2h
    |1,rfl=>
     obtain⟨O,c⟩:=r;have dZ:rS a 133=(nP (nM ⟨Q,4,nN⟩)):=c.say 0 (p ⟨0,.data⟩ Zh rfl) (lq rfl)
     have n8:dd 8=false:=by
      cases e:dd 8 with
      |false=>rfl
      |true=>exact absurd (az 6 _ rfl (az 8 _ rfl e ⟨6,.data⟩ Zh rfl) ⟨1,.data⟩ Zh rfl) (by rw[f];simp)
     obtain⟨zl,zf,z0,z1,z2,z3,z4,z5⟩:=(c.blk aD.o (lr (u:=vf Q) (Qr rfl) n8)).cells6;exact z1z
    |2,rfl=>
     exact z2d
    |3,rfl=>
     obtain⟨O,c⟩:=r;have d0:rS a 135=(nP (nM ⟨A,4,nN⟩)):=c.say 2 (p ⟨2,.data⟩ Zh rfl) (lq rfl);obtain⟨zl,zf,z0,z1,z2,z3,z4,z5⟩:=(c.blk aN.o (lq (u:=vf Q) (Qs z2m))).cells6;exact z1z
    |4,rfl=>
     obtain⟨O,c⟩:=r;have dh:rS a 10=(nI nX j):=U.at 10 Yb;exact z1z
    |5,rfl=>
     obtain⟨O,c⟩:=r;have d1:rS a 136=(nS Z n lc):=c.say 3 (p ⟨3,.data⟩ Zh rfl) (lq rfl);have d2:rS a 137=(nI nX j):=c.say 4 (p ⟨4,.data⟩ Zh rfl) (lq rfl);have aU:j<=lc:=Q7 ad.o ca.o;go_simp;exact G _ _ Zh (c.val aa.o f ⟨_,_,rfl,.inr rfl⟩)
    |6,rfl=>
     obtain⟨O,c⟩:=r;have cv:a.tmps.getD 134 undef=(nS nN 0 0):=c.say 1 (p ⟨1,.data⟩ Zh rfl) (lq rfl);have cv:a.tmps.getD 134 undef= nS nN 0 0:=c.say 1 (p ⟨1,.data⟩ Zh rfl) (lq rfl);obtain⟨a',c',dp,b2⟩:∃a' c',a.tmps.getD 138 undef= nS a' j c'/\(j=0\/a'=Z):=c.say 5 (p ⟨5,.data⟩ Zh rfl) (lq rfl)
     have aJ:∀i v,us[i]? =nM v->∃B V,a'=nM ⟨B,V,nN⟩/\t.cell? ⟨B,V+i,nN⟩=nM v:=fun i v H=>by
      obtain⟨B,V,e,bZ,hc⟩:=c6.o i v H;rcases b2 with h0|h0
      .rw[cq.o,h0,Nat.zero_mul,List.take_zero]at H;cases H
      .exact⟨B,V,by rw[h0];exact e,c.cell (hc J cR) (lq (u:=vf Q) (Qs bZ))⟩
     rw[Qr ZN];refine mi _ _ 26 rfl 29 NP 6 88 ZM underlying26 Dp rfl (nS nN 0 0) 0 [] (by simpa[Act.eval]using cv) (Ba.nil _ _ _) a' j c' us (by simpa[Act.eval]using dp) db.o aJ da.o Zj Zj ?_;intro C av w7 D k2 k3;rw[Nat.zero_add,List.nil_append]at D;rw[Nat.zero_add]at k3|-
     have bE:∀g,(Vl.slice C j av).ownBlock=nM g->t.heap.size<=g:=fun g m=>by
      rcases k3 g m with h|h
      .cases h
      .exact h
     exact G _ _ Zh ⟨_,c.next aa.o f (O':=fun b=>(Vl.slice C j av).ownBlock=nM b) k2 ⟨C,av,rfl,D,fun g m=>m⟩ (fun b d=>D.lt d) (fun b d=> .inl (bE b d)) (fun b d=>by cases d)⟩
    |7,rfl=>
     exact z2h
    |8,rfl=>
     obtain⟨O,c⟩:=r;have d3:rS a 140=(nP (nM ⟨Q,4,nN⟩)):=c.say 7 (p ⟨7,.data⟩ Zh rfl) (lq rfl);have bF:=c.say 6 (p ⟨6,.data⟩ Zh rfl) (lr (u:=vE) rfl f);obtain⟨C,c2,bW,z,I⟩:=bF;have bW:a.tmps.getD 139 undef= nS C j c2:=bW;have z:Ba t (a.tmps.getD 139 undef) 29 6 j us:=z;have I:∀g,(a.tmps.getD 139 undef).ownBlock=nM g->O 6 g:=I;rw[bW]at z I;have aj:=c.blk aD.o (lr (u:=vf Q) (Qr rfl) f);obtain⟨zl,zf,z0,z1,z2,z3,z4,z5⟩:=aj.cells6;go_simp
     have bf:∀g,(Vl.slice C j c2).ownBlock=nM g->g≠Q:=fun g m e=>by
      have W:=(c.own 6 (p ⟨6,.data⟩ Zh rfl) (lr (u:=vE) rfl f) g (I g m)).2 (by rw[e];exact aD.o.lt);obtain⟨k,D,k2⟩:=W;rw[e]at D;have e2:nM 8=nM k:=by rw[<-D];exact(Qr rfl).symm
      exact z2l
     have hc:Chg t (t.setCell ⟨Q,4,nN⟩ (nS C j c2)) [Q]:=(Chg.refl _ _).setCell _ _ Zh
     exact G undef _ (fun _=>rfl) ⟨_,c.next aa.o f (O':=fun b=>b=Q\/(Vl.slice C j c2).ownBlock=nM b) hc ⟨C,c2,(aj.set 4 _).eq rfl,z.kept hc (fun g m hm=>bf g m (by simpa using hm)),.inl rfl,fun g m=>⟨.inr m,bf g m⟩⟩ (fun b d=>by
      rcases d with rfl|d
      .exact Q6 aD.o.lt (Q7 c.sz hc.size)
      .exact Q6 (z.lt d) hc.size) (fun b d=>by
      rcases d with rfl|d
      .exact .inr (.inl ⟨aD.o.lt,Qr rfl⟩)
      .exact .inr (.inr ⟨6,rfl,p ⟨6,.data⟩ Zh rfl,I b d⟩)) (fun b d _=> .inl (by obtain rfl:=List.mem_singleton.1 d;exact⟨aD.o.lt,Qr rfl⟩))⟩
    |_+9,ho=>exact absurd ho Zh
  .intro a w6 dd U hd r;obtain⟨O,c⟩:=r;have bi:=c.say 8 (hd 8 ZM) (lq rfl);obtain⟨C,c2,aj,z,b1,I⟩:=bi
   have ap:=UD (Chg J w6 [Q]) (c.chg [Q] (fun b k hk _=>by
    unfold vf at hk;split at hk
    .rename_i e;simp[e]
    .cases hk))
   have bK:=UD (∀g,(Vl.slice C j c2).ownBlock=nM g->g≠Q) fun g m=>(I g m).2
   have bn:=UD (∀g,(Vl.slice C j c2).ownBlock=nM g->J.heap.size<=g) fun g m=>by
    by_cases ah:g<J.heap.size
    .obtain⟨k,D,_⟩:=(c.own 8 (hd 8 ZM) (lq rfl) g (I g m).1).2 ah;unfold vf at D;rw[Qs (I g m).2]at D;cases D
    .omega
   have aE:=hZ aj;have bq:=hZ z;have cM:=hZ (aN.o.kept ap.o z2f);have bv:=hZ (bu.o.kept ap.o z2f);have aR:=hZ (a2.o.kept ap.o z2f);clear c aj z b1 I hd;obtain⟨fu,hu,rfl⟩:=U.fin2 [133,134,135,136,137,138,139,140] Yb;clear U hu;obtain⟨vs,bm⟩:=Ue (xs.drop (j*6));have dg:=hZ bm;have aB:xs.length=6*l.length:=aq.o.length;have cr:=UD (vs.length=(n-j)*6) (by rw[bm,Qm,aB,<-HN.o];have:=ad.o;omega);have dc:=UD (∀u∈vs,u.oneCell'=true) fun u hu=>by rw[bm]at hu;exact aq.o.ones u (List.mem_of_mem_drop hu)
   have an:Chg w J []:=H0.o.trans H5.o;have cp:=UD (∀b,b≠Q->b<J.heap.size->ve Q (nS C j c2) b=nN) fun b W h2=>(Qs W).trans (Qs fun h=>by have:=bn.o b h;omega)
   have c7:=UD (∀i v,vs[i]? =nM v->∃B V,Z=nM ⟨B,V,nN⟩/\B≠Q/\(Vl.slice C j c2).ownBlock≠nM B/\∀wx,Chg w6 wx []->wx.cell? ⟨B,V+j*6+i,nN⟩=nM v) fun i v H=>by
    rw[bm,List.getElem?_drop]at H;rcases bQ.o with h|⟨b,o,e,_,hc⟩
    .rw[h]at H;simp at H
    .have W:b<w.heap.size:=World.block_lt_of_cell? _ _ (hc _ v H);have h2:=aw.o;have h3:=aQ.o;refine⟨b,o,e,Zj,fun h=>by have h4:=bn.o b h;have:=an.size;omega,fun wx hx=>hx.keeps ?_⟩;rw[ap.o.cell (by have:=an.size;simp only;omega) (by simp;omega),Nat.add_assoc];exact an.keeps (hc _ v H)
   have ae:=UD (pR w6 (ve Q (nS C j c2)) (vk Q A n j Z C lc c2 us vs L M N P S T)) (vk.stays w6 _ Q A n j Z C lc c2 us vs L M N P S T);clear bm aB an;go_upto_region 25 with(fail);refine uW (qF w6 (ve Q (nS C j c2)) vB (vk Q A n j Z C lc c2 us vs L M N P S T)) ?_ ?_ ?_
   .intro ii op a t dd ho U f p az r K G
    match ii,ho with
      |0,rfl=>
       exact z2i
      |1,rfl=>
       obtain⟨O,c⟩:=r;have d4:rS a 141=(nP (nM ⟨Q,4,nN⟩)):=c.say 0 (p ⟨0,.data⟩ Zh rfl) (lq rfl)
       have dN:dd 11=false:=by
        cases e:dd 11 with
        |false=>rfl
        |true=>exact absurd (az 4 _ rfl (az 9 _ rfl (az 11 _ rfl e ⟨9,.data⟩ Zh rfl) ⟨4,.data⟩ Zh rfl) ⟨1,.data⟩ Zh rfl) (by rw[f];simp)
       obtain⟨zl,zf,z0,z1,z2,z3,z4,z5⟩:=(c.blk aE.o (lr (u:=ve Q (nS C j c2)) (Qr rfl) dN)).cells6;exact z2a
      |2,rfl=>
       obtain⟨O,c⟩:=r;have h7:rS a 7=(nP (nM ⟨X,0,nN⟩)):=U.at 7 Yb;obtain⟨zl,zf,z0,z1,z2,z3,z4,z5⟩:=(c.blk bv.o (lq (u:=ve Q (nS C j c2)) (cp.o X z2m (by have:=bu.o.lt;omega)))).cells6;exact z2a
      |3,rfl=>
       obtain⟨O,c⟩:=r;have dq:a.tmps.getD 143 undef=(nA #[L,M,N,P,S,T]):=c.say 2 (p ⟨2,.data⟩ Zh rfl) (lq rfl);have dQ:a.tmps[143]?.getD undef= nA #[L,M,N,P,S,T]:=by rw[<-Qp];exact dq
       go_simp;exact G _ _ Zh (c.new ae.o f ((Chg.refl t []).alloc _) (O':=fun b=>b=t.heap.size) ⟨t.heap.size,rfl,Ac.new _ _ _,rfl⟩ (fun b d=>by subst d;exact⟨Q8 _,Zh⟩))
      |4,rfl=>
       obtain⟨O,c⟩:=r;have cw:a.tmps.getD 142 undef=(nS C j c2):=c.say 1 (p ⟨1,.data⟩ Zh rfl) (lq rfl);have bg:=c.say 3 (p ⟨3,.data⟩ Zh rfl) (lq rfl);obtain⟨g3,bX,a7,cC⟩:=bg;have bX:a.tmps.getD 144 undef= nS (nM ⟨g3,0,nN⟩) 1 1:=bX;have cw:a.tmps.getD 142 undef= nS C j c2:=c.say 1 (p ⟨1,.data⟩ Zh rfl) (lq rfl);have z:Ba t (nS C j c2) 29 6 j us:=bq.o.sameB fun g m=>c.old g (bq.o.lt m) (lr (u:=ve Q (nS C j c2)) ((Qs (bK.o g m)).trans (Qr m)) f);rw[Qr ZN];refine mi _ _ 26 rfl 29 NP 6 88 ZM underlying26 Dp rfl (nS C j c2) j us (by simpa[Act.eval]using cw) z (nM ⟨g3,0,nN⟩) 1 1 [L,M,N,P,S,T] (by simpa[Act.eval]using bX) rfl (fun i v H=>⟨g3,0,rfl,by rw[Nat.zero_add];exact(a7.cell i).trans H⟩) HO.o z2j z2j ?_;intro a4 ax w7 D k2 k3
       exact G _ _ Zh ⟨_,c.next ae.o f (O':=fun b=>(Vl.slice a4 (j+1) ax).ownBlock=nM b) k2 ⟨a4,ax,rfl,D,fun g m=>m⟩ (fun b d=>D.lt d) (fun b d=>by
        rcases k3 b d with h|h
        .exact .inr (.inl ⟨bq.o.lt h,(Qs (bK.o b h)).trans (Qr h)⟩)
        .exact .inl h) (fun b d _=> .inl (by
          have d:(Vl.slice C j c2).ownBlock=nM b:=by simpa using d
          exact⟨bq.o.lt d,(Qs (bK.o b d)).trans (Qr d)⟩))⟩
      |5,rfl=>
       obtain⟨O,c⟩:=r;have h4:rS a 4=(nP (nM ⟨A,0,nN⟩)):=U.at 4 Yb;exact z2a
      |6,rfl=>
       obtain⟨O,c⟩:=r;have d5:rS a 146=(nP (nM ⟨A,4,nN⟩)):=c.say 5 (p ⟨5,.data⟩ Zh rfl) (lq rfl);obtain⟨zl,zf,z0,z1,z2,z3,z4,z5⟩:=(c.blk cM.o (lq (u:=ve Q (nS C j c2)) (cp.o A z2m (by have:=aN.o.lt;omega)))).cells6;exact z2a
      |7,rfl=>
       obtain⟨O,c⟩:=r;have dh:rS a 10=(nI nX j):=U.at 10 Yb;exact z2a
      |8,rfl=>
       obtain⟨O,c⟩:=r;have d6:rS a 147=(nS Z n lc):=c.say 6 (p ⟨6,.data⟩ Zh rfl) (lq rfl);have d7:rS a 148=(nI nX j):=c.say 7 (p ⟨7,.data⟩ Zh rfl) (lq rfl);have aU:j<=n:=ad.o;have eb:(j:Int)<=(n:Int):=Zj;have b3:=ca.o;go_simp
       exact G _ _ Zh (c.val ae.o f ⟨_,_,rfl,by
        by_cases hq:n=j
        .exact .inl hq
        .exact .inr (Qs Zj)⟩)
      |9,rfl=>
       obtain⟨O,c⟩:=r;have bh:=c.say 4 (p ⟨4,.data⟩ Zh rfl) (lr (u:=vB) rfl f);obtain⟨a4,c4,bx,z,I⟩:=bh;have bx:a.tmps.getD 145 undef= nS a4 (j+1) c4:=bx;have z:Ba t (a.tmps.getD 145 undef) 29 6 (j+1) (us++[L,M,N,P,S,T]):=z;have I:∀g,(a.tmps.getD 145 undef).ownBlock=nM g->O 4 g:=I;rw[bx]at z I;have bi:=c.say 8 (p ⟨8,.data⟩ Zh rfl) (lq rfl);obtain⟨a',c',bY,b2⟩:=bi;have bY:a.tmps.getD 149 undef= nS a' (n-j) c':=bY
       have aJ:∀i v,vs[i]? =nM v->∃B V,a'=nM ⟨B,V,nN⟩/\t.cell? ⟨B,V+i,nN⟩=nM v:=fun i v H=>by
        obtain⟨B,V,e,bZ,dt,hc⟩:=c7.o i v H;rcases b2 with h0|h0
        .have hl:=cr.o;rw[h0,Nat.sub_self,Nat.zero_mul]at hl;rw[List.eq_nil_of_length_eq_zero hl]at H;simp at H
        .refine⟨B,V+j*6,by rw[h0,e];simp[FB],c.cell (hc w6 cR) (lq (u:=ve Q (nS C j c2)) ((Qs bZ).trans (Qs dt)))⟩
       rw[Qr ZN];refine mi _ _ 26 rfl 29 NP 6 88 ZM underlying26 Dp rfl (nS a4 (j+1) c4) (j+1) (us++[L,M,N,P,S,T]) (by simpa[Act.eval]using bx) z a' (n-j) c' vs (by simpa[Act.eval]using bY) cr.o aJ dc.o z2j z2j ?_;intro a9 cs w7 D k2 k3
       exact G _ _ Zh ⟨_,c.next ae.o f (O':=fun b=>(Vl.slice a9 (j+1+(n-j)) cs).ownBlock=nM b) k2 ⟨a9,cs,rfl,D,fun g m=>m⟩ (fun b d=>D.lt d) (fun b d=>by
        rcases k3 b d with h|h
        .exact .inr (.inr ⟨4,rfl,p ⟨4,.data⟩ Zh rfl,I b h⟩)
        .exact .inl h) (fun b d _=> .inr ⟨4,rfl,p ⟨4,.data⟩ Zh rfl,I b (by simpa using d)⟩)⟩
      |10,rfl=>
       exact z2i
      |11,rfl=>
       obtain⟨O,c⟩:=r;have d8:rS a 151=(nP (nM ⟨Q,4,nN⟩)):=c.say 10 (p ⟨10,.data⟩ Zh rfl) (lq rfl);have bj:=c.say 9 (p ⟨9,.data⟩ Zh rfl) (lr (u:=vB) rfl f);obtain⟨a9,c9,bA,z,I⟩:=bj;have bA:a.tmps.getD 150 undef= nS a9 (j+1+(n-j)) c9:=bA;have z:Ba t (a.tmps.getD 150 undef) 29 6 (j+1+(n-j)) (us++[L,M,N,P,S,T]++vs):=z;have I:∀g,(a.tmps.getD 150 undef).ownBlock=nM g->O 9 g:=I;rw[bA]at z I;have aj:=c.blk aE.o (lr (u:=ve Q (nS C j c2)) (Qr rfl) f);obtain⟨zl,zf,z0,z1,z2,z3,z4,z5⟩:=aj.cells6;obtain⟨N1,aG⟩:=Ue (j+1+(n-j));rw[<-aG]at bA z I;have aZ:=hZ aG;clear aG;go_simp
       have bf:∀g,(Vl.slice a9 N1 c9).ownBlock=nM g->g≠Q:=fun g m e=>by
        have W:=(c.own 9 (p ⟨9,.data⟩ Zh rfl) (lr (u:=vB) rfl f) g (I g m)).2 (by rw[e];exact aE.o.lt);obtain⟨k,D,k2⟩:=W;rw[e]at D;have e2:nM 11=nM k:=by rw[<-D];exact(Qr rfl).symm
        exact z2l
       have hc:Chg t (t.setCell ⟨Q,4,nN⟩ (nS a9 N1 c9)) [Q]:=(Chg.refl _ _).setCell _ _ Zh
       refine G undef _ (fun _=>rfl) ⟨_,c.next ae.o f (O':=fun b=>b=Q\/(Vl.slice a9 N1 c9).ownBlock=nM b) hc ⟨a9,c9, ?_, ?_,.inl rfl,fun g m=> ?_⟩ (fun b d=>by
        rcases d with rfl|d
        .exact Q6 aE.o.lt (Q7 c.sz hc.size)
        .exact Q6 (z.lt d) hc.size) (fun b d=>by
        rcases d with rfl|d
        .exact .inr (.inl ⟨aE.o.lt,Qr rfl⟩)
        .exact .inr (.inr ⟨9,rfl,p ⟨9,.data⟩ Zh rfl,I b d⟩)) (fun b d _=> .inl (by obtain rfl:=List.mem_singleton.1 d;exact⟨aE.o.lt,Qr rfl⟩))⟩
       .rw[<-aZ.o];exact(aj.set 4 _).eq rfl
       .rw[<-aZ.o];exact z.kept hc (fun g m hm=>bf g m (by simpa using hm))
       .rw[<-aZ.o]at m;exact⟨.inr m,bf g m⟩
      |_+12,ho=>exact absurd ho Zh
   .intro a w8 dd U hd r;obtain⟨O,c⟩:=r;have hs:=c.say 11 (hd 11 ZM) (lq rfl);obtain⟨a9,c9,aj,z,b1,I⟩:=hs
    have aL:=UD (Chg J w8 [Q]) (ap.o.step (c.chg (Q::(Vl.slice C j c2).ownBlock.toList) (fun b k hk _=>by
     unfold ve at hk;split at hk
     .rename_i e;simp[e]
     .split at hk
      .rename_i e;simp[e]
      .cases hk)) (fun b d ah=>by
     rcases Qh.1 d with d|d
     .simp[d]
     .have:=bn.o b (by simpa using d);omega))
    have cc:=UD (∀g,(Vl.slice a9 (j+1+(n-j)) c9).ownBlock=nM g->Q<g) fun g m=>by
     have dy:=(I g m).2;by_cases ah:g<w6.heap.size
     .obtain⟨k,D,_⟩:=(c.own 11 (hd 11 ZM) (lq rfl) g (I g m).1).2 ah;unfold ve at D;rw[Qs dy]at D;split at D
      .rename_i e;have W:=bn.o g e;have h2:=aD.o.lt;omega
      .cases D
     .have W:=aE.o.lt;omega
    have cm:=hZ aj;have br:=hZ z;have bP:=hZ (a2.o.kept aL.o z2f);clear c aj z b1 I hd;obtain⟨fu,hu,rfl⟩:=U.fin2 [141,142,143,144,145,146,147,148,149,150,151] Yb;clear U hu;obtain⟨N1,aG⟩:=Ue (j+1+(n-j));rw[<-aG]at cm br cc;have aZ:=hZ aG;clear aG
    go_wp2_with(first
     |(refine uN cm.o ?_)
     |(refine uO (ds:=[nI nX 5,.bool false,nI .u64 0,nG ⟨#[]⟩,nS a9 N1 c9,nS nN 0 0]) bP.o z2e ?_;intro w9 bI H9))
    refine bodyPost_ret (uP bI.o) rfl ?_;have b4:(l.insertIdx j x).length=N1:=by rw[List.length_insertIdx_of_le_length (by rw[<-HN.o];exact ad.o),<-HN.o,aZ.o];have:=ad.o;omega
    have cu:Chg w w8 []:=(H0.o.trans H5.o).fresh aL.o (fun y hy=>by have W:=aw.o;have h2:=aQ.o;simp at hy;omega);have cA:∀b,F b->b<w.heap.size:=HF.o;have am:BZ F w w8:=cu.keepsF cA
    have ay:Aq w8 F (l.insertIdx j x) (us++[L,M,N,P,S,T]++vs):=by
     rw[AQ l j (by rw[<-HN.o];exact ad.o) x,cq.o,dg.o,List.append_assoc,show j*6=6*j from Nat.mul_comm _ _];have W:=aq.o.split j;refine(Aq.kept am (fun _ h=>h) _ _ W.1).append ?_;simp only[Aq];exact⟨_,_,rfl,AL.kept am (fun _ h=>h) _ _ bV.o,Aq.kept am (fun _ h=>h) _ _ W.2⟩
    have H:AL w8 (fun b=>F b\/(Vl.slice a9 N1 c9).ownBlock=nM b) (.list (l.insertIdx j x)) (vC 5 false 0 Dz (nS a9 N1 c9) (nS nN 0 0)):=by
     simp only[AL];refine⟨a9,c9,nN,0,us++[L,M,N,P,S,T]++vs,by rw[b4],br.o.rowN (by rw[ay.length,b4];omega) (fun g m=> .inr m),Aq.kept (fun _ _ _=>rfl) (fun _ h=> .inl h) _ _ ay,by rw[b4];exact br.o.capLe.2⟩
    exact qI (w0:=w0) HF.o H0.o (H5.o.fresh aL.o (fun y hy=>by have W:=aQ.o;simp at hy;omega)) (by have:=aw.o;omega) aQ.o H9.o H (fun b d=>by
     rcases d with d|d
     .exact⟨.inl d,Q6 (cA b d) cu.size⟩
     .exact⟨.inr (cc.o b d),br.o.lt d⟩)
   .exact⟨_,uB.start _ _ _ _ _ (Chg.refl w6 _).drew⟩
  .exact⟨_,uB.start _ _ _ _ _ (Chg.refl J _).drew⟩
 .obtain⟨bC,cE,cH,cJ,cF,cI,cG⟩:=HW.o;have ad:=hZ bC;have cT:=hZ cE;have ce:=hZ cH;have cj:=hZ cJ;have cV:=hZ cF;have bp:=hZ cI;have aX:=hZ cG;clear bC cE cH cJ cF cI cG HW;go_upto_region 19 with(fail);clear al af a0 a1 C a3 a4 a5;have aB:xs.length=6*l.length:=aq.o.length;have cQ:=UD (xs.length=n*6) (by rw[aB,<-HN.o];omega);have cP:=UD (∀u∈xs,u.oneCell'=true) aq.o.ones;have cd:=UD (ab.length=n*1) (by rw[bp.o,<-aX.o];simp[Ad]);have cU:=UD (∀u∈ab,u.oneCell'=true) fun u hu=>by rw[bp.o]at hu;obtain⟨q,_,rfl⟩:=List.mem_map.1 hu;rfl
  have an:Chg w J []:=H0.o.trans H5.o
  have cX:=UD (∀i v,ab[i]? =nM v->∃B V,ka=nM ⟨B,V,nN⟩/\∀wx,Chg J wx []->wx.cell? ⟨B,V+i,nN⟩=nM v) fun i v H=>by
   obtain⟨b,o,e,hc⟩:=cV.o i v H;exact⟨b,o,e,fun wx hx=>(an.trans hx).keeps hc⟩
  have cS:=UD (∀i v,xs[i]? =nM v->∃B V,Z=nM ⟨B,V,nN⟩/\∀wx,Chg J wx []->wx.cell? ⟨B,V+i,nN⟩=nM v) fun i v H=>by
   rcases bQ.o with h|⟨b,o,e,_,hc⟩
   .rw[h]at H;simp at H
   .exact⟨b,o,e,fun wx hx=>(an.trans hx).keeps (hc i v H)⟩
  have aa:=UD (pR J vh (vl A n ka Z kc lc ab xs)) (vl.stays J A n ka Z kc lc ab xs);clear aB an;refine uW (qF J vh vq (vl A n ka Z kc lc ab xs)) ?_ ?_ ?_
  .intro ii op a t dd ho U f p az r K G
   match ii,ho with
    |0,rfl=>
     obtain⟨O,c⟩:=r;go_simp;exact G _ _ Zh (c.new aa.o f ((Chg.refl t []).alloc _) (O':=fun b=>b=t.heap.size) ⟨t.heap.size,rfl,Z2 t 9 1,rfl⟩ (fun b d=>by subst d;exact⟨Q8 _,Zh⟩))
    |1,rfl=>
     exact z2d
    |2,rfl=>
     obtain⟨O,c⟩:=r;have dR:rS a 107=(nP (nM ⟨A,5,nN⟩)):=c.say 1 (p ⟨1,.data⟩ Zh rfl) (lq rfl);exact z2g
    |3,rfl=>
     obtain⟨O,c⟩:=r;have dS:rS a 108=(nS ka n kc):=c.say 2 (p ⟨2,.data⟩ Zh rfl) (lq rfl);have aA:=c.say 0 (p ⟨0,.data⟩ Zh rfl) (lr (u:=vq) rfl f);obtain⟨g0,hy,z,be⟩:=aA;have hs:a.tmps.getD 106 undef= nS (nM ⟨g0,0,nN⟩) 0 0:=hy;have z:Ba t (a.tmps.getD 106 undef) 9 1 0 []:=z;rw[hs]at z;have hx:a.tmps.getD 108 undef=(nS ka n kc):=c.say 2 (p ⟨2,.data⟩ Zh rfl) (lq rfl)
     have aJ:∀i v,(ab)[i]? =nM v->∃B V,ka=nM ⟨B,V,nN⟩/\t.cell? ⟨B,V+i,nN⟩=nM v:=fun i v H=>by
      obtain⟨B,V,e,hc⟩:=cX.o i v H;exact⟨B,V,e,c.cell (hc J cR) (lq (u:=vh) rfl)⟩
     rw[Qr ZN];refine mi _ _ 27 rfl 9 Ho 1 16 ZM underlying27 Cf rfl (nS (nM ⟨g0,0,nN⟩) 0 0) 0 [] (by simpa[Act.eval]using hs) z ka n kc (ab) (by simpa[Act.eval]using hx) cd aJ cU Zj Zj ?_;intro C av w7 D k2 k3;rw[Nat.zero_add,List.nil_append]at D;rw[Nat.zero_add]at k3|-
     exact G _ _ Zh ⟨_,c.next aa.o f (O':=fun b=>(Vl.slice C n av).ownBlock=nM b) k2 ⟨C,av,rfl,D,fun g m=>m⟩ (fun b d=>D.lt d) (fun b d=>by
      rcases k3 b d with h|h
      .exact .inr (.inr ⟨0,rfl,p ⟨0,.data⟩ Zh rfl,by have e:g0=b:=Q5 h;rw[<-e];exact be⟩)
      .exact .inl h) (fun b d _=> .inr ⟨0,rfl,p ⟨0,.data⟩ Zh rfl,by rw[<-qY d];exact be⟩)⟩
    |4,rfl=>
     obtain⟨O,c⟩:=r;go_simp;exact G _ _ Zh (c.new aa.o f ((Chg.refl t []).alloc _) (O':=fun b=>b=t.heap.size) ⟨t.heap.size,rfl,Z2 t 29 6,rfl⟩ (fun b d=>by subst d;exact⟨Q8 _,Zh⟩))
    |5,rfl=>
     exact z2d
    |6,rfl=>
     obtain⟨O,c⟩:=r;have dT:rS a 111=(nP (nM ⟨A,4,nN⟩)):=c.say 5 (p ⟨5,.data⟩ Zh rfl) (lq rfl);exact z2g
    |7,rfl=>
     obtain⟨O,c⟩:=r;have dU:rS a 112=(nS Z n lc):=c.say 6 (p ⟨6,.data⟩ Zh rfl) (lq rfl);have aA:=c.say 4 (p ⟨4,.data⟩ Zh rfl) (lr (u:=vq) rfl f);obtain⟨g0,hy,z,be⟩:=aA;have hs:a.tmps.getD 110 undef= nS (nM ⟨g0,0,nN⟩) 0 0:=hy;have z:Ba t (a.tmps.getD 110 undef) 29 6 0 []:=z;rw[hs]at z;have hx:a.tmps.getD 112 undef=(nS Z n lc):=c.say 6 (p ⟨6,.data⟩ Zh rfl) (lq rfl)
     have aJ:∀i v,(xs)[i]? =nM v->∃B V,Z=nM ⟨B,V,nN⟩/\t.cell? ⟨B,V+i,nN⟩=nM v:=fun i v H=>by
      obtain⟨B,V,e,hc⟩:=cS.o i v H;exact⟨B,V,e,c.cell (hc J cR) (lq (u:=vh) rfl)⟩
     rw[Qr ZN];refine mi _ _ 26 rfl 29 NP 6 88 ZM underlying26 Dp rfl (nS (nM ⟨g0,0,nN⟩) 0 0) 0 [] (by simpa[Act.eval]using hs) z Z n lc (xs) (by simpa[Act.eval]using hx) cQ aJ cP Zj Zj ?_;intro C av w7 D k2 k3;rw[Nat.zero_add,List.nil_append]at D;rw[Nat.zero_add]at k3|-
     exact G _ _ Zh ⟨_,c.next aa.o f (O':=fun b=>(Vl.slice C n av).ownBlock=nM b) k2 ⟨C,av,rfl,D,fun g m=>m⟩ (fun b d=>D.lt d) (fun b d=>by
      rcases k3 b d with h|h
      .exact .inr (.inr ⟨4,rfl,p ⟨4,.data⟩ Zh rfl,by have e:g0=b:=Q5 h;rw[<-e];exact be⟩)
      .exact .inl h) (fun b d _=> .inr ⟨4,rfl,p ⟨4,.data⟩ Zh rfl,by rw[<-qY d];exact be⟩)⟩
    |8,rfl=>
     obtain⟨O,c⟩:=r;have bg:=c.say 3 (p ⟨3,.data⟩ Zh rfl) (lr (u:=vq) rfl f);obtain⟨a3,c3,hy,z,I⟩:=bg;have hs:a.tmps.getD 109 undef= nS a3 n c3:=hy;have z:Ba t (a.tmps.getD 109 undef) 9 1 n ab:=z;have I:∀g,(a.tmps.getD 109 undef).ownBlock=nM g->O 3 g:=I;rw[hs]at z I;go_simp;exact G _ _ Zh ⟨_,c.next aa.o f (O':=fun b=>(Vl.slice a3 n c3).ownBlock=nM b) (show Chg t t []from Chg.refl t []) ⟨a3,c3,rfl,z,fun g m=>m⟩ (fun b d=>z.lt d) (fun b d=> .inr (.inr ⟨3,rfl,p ⟨3,.data⟩ Zh rfl,I b d⟩)) (fun b d=>by cases d)⟩
    |9,rfl=>
     obtain⟨O,c⟩:=r;have bg:=c.say 7 (p ⟨7,.data⟩ Zh rfl) (lr (u:=vq) rfl f);obtain⟨a3,c3,hy,z,I⟩:=bg;have hs:a.tmps.getD 113 undef= nS a3 n c3:=hy;have z:Ba t (a.tmps.getD 113 undef) 29 6 n xs:=z;have I:∀g,(a.tmps.getD 113 undef).ownBlock=nM g->O 7 g:=I;rw[hs]at z I;go_simp;exact G _ _ Zh ⟨_,c.next aa.o f (O':=fun b=>(Vl.slice a3 n c3).ownBlock=nM b) (show Chg t t []from Chg.refl t []) ⟨a3,c3,rfl,z,fun g m=>m⟩ (fun b d=>z.lt d) (fun b d=> .inr (.inr ⟨7,rfl,p ⟨7,.data⟩ Zh rfl,I b d⟩)) (fun b d=>by cases d)⟩
    |_+10,ho=>exact absurd ho Zh
  .intro a w6 dd U hd r;obtain⟨O,c⟩:=r;have bi:=c.say 8 (hd 8 ZM) (lq rfl);have bj:=c.say 9 (hd 9 ZM) (lq rfl);obtain⟨ak,Y,e8,bd,aW⟩:=bi;obtain⟨ai,ci,e9,bc,aV⟩:=bj;have bw:a.tmps.getD 14 undef= nS ak n Y:=e8;have bz:a.tmps.getD 15 undef= nS ai n ci:=e9;have bd:Ba w6 (a.tmps.getD 14 undef) 9 1 n ab:=bd;have bc:Ba w6 (a.tmps.getD 15 undef) 29 6 n xs:=bc;have aW:∀g,(a.tmps.getD 14 undef).ownBlock=nM g->O 8 g:=aW;have aV:∀g,(a.tmps.getD 15 undef).ownBlock=nM g->O 9 g:=aV;rw[bw]at bd aW;rw[bz]at bc aV;have ap:=UD (Chg J w6 []) (c.chg [] (fun b k hk _=>by cases hk))
   have bL:=UD (∀g,(Vl.slice ak n Y).ownBlock=nM g->J.heap.size<=g) fun g m=>by
    by_cases ah:g<J.heap.size
    .obtain⟨k,D,_⟩:=(c.own 8 (hd 8 ZM) (lq rfl) g (aW g m)).2 ah;cases D
    .omega
   have bo:=UD (∀g,(Vl.slice ai n ci).ownBlock=nM g->J.heap.size<=g) fun g m=>by
    by_cases ah:g<J.heap.size
    .obtain⟨k,D,_⟩:=(c.own 9 (hd 9 ZM) (lq rfl) g (aV g m)).2 ah;cases D
    .omega
   have cb:=UD (∀g,(Vl.slice ak n Y).ownBlock=nM g->(Vl.slice ai n ci).ownBlock≠nM g) fun g W h2=>c.dis 8 9 ZM (hd 8 ZM) (hd 9 ZM) (lq rfl) (lq rfl) g (aW g W) (aV g h2);have aY:=hZ bd;have aP:=hZ bc;have bv:=hZ (bu.o.kept ap.o);have aR:=hZ (a2.o.kept ap.o);have aS:=UD (Chg w w6 []) ((H0.o.trans H5.o).trans ap.o);clear c bd bc aW aV hd e8 e9;obtain⟨fu,hu,rfl⟩:=U.fin2 [106,107,108,109,110,111,112,113,14,15] Yb;have cK:=(hu 14).symm.trans bw;have cL:=(hu 15).symm.trans bz;clear U hu bw bz;rw[cK,cL];clear cK cL;cases th with
   |true=>
    obtain⟨aU,a8⟩:=ad.o rfl;have aU:j<n:=by rw[HN.o];exact aU
    have bJ:=hZ a8;obtain⟨q,cap,e,hq⟩:=aP.o.form;obtain⟨gi,rfl⟩:=hq Zj;injection e with e1 e2 e3
    subst e1;subst e3;have aI:=aP.o.setK (vs:=[L,M,N,P,S,T]) (i:=j) rfl aU;have c8:=hZ aI.1;have bN:=hZ aI.2;obtain⟨xl,xf,x0,x1,x2,x3,x4,x5⟩:=bv.o.cells6;have ea:(j:Int)<(n:Int):=Zj;clear aI a8 e2 hq
    go_upto_region 22 with(first
     |(refine wpList_store_mid rfl _ _ _ rfl gi (j*6) #[L,M,N,P,S,T] ZN ZN c8.o A9 (all_oneCell_toArray HO.o) ?_))
    obtain⟨w7,b8⟩:=Ue (w6.setCells gi (j*6) [L,M,N,P,S,T]);have a6:Chg w6 w7 [gi]:=by rw[b8];exact Chg.setCells Zh _ _ _ cR
    change Code.wp _ _ _ _ (w6.setCells gi (j*6) [L,M,N,P,S,T]);rw[<-b8]at bN|-;have dx:J.heap.size<=gi:=bo.o gi rfl;have b7:w.heap.size<=J.heap.size:=(H0.o.trans H5.o).size;have cB:Ba w7 (nS ak n Y) 9 1 n ab:=aY.o.kept a6 (fun g m hm=>cb.o g m (by rw[List.mem_singleton.1 hm];rfl));have am:BZ F w w7:=((aS.o.none [gi]).trans a6).keepsF HF.o (fun b d aT=>by have W:=HF.o b aT;rw[List.mem_singleton.1 d]at W;omega);have dz:j<l.length:=by rw[<-HN.o];exact aU
    have ay:Aq w7 F (l.set j x) (xs.take (j*6)++([L,M,N,P,S,T]++xs.drop ((j+1)*6))):=by
     rw[(CZ (Q9 dz) x).2,show j*6=6*j from Nat.mul_comm _ _,show(j+1)*6=6*(j+1)from Nat.mul_comm _ _];refine(Aq.kept am (fun _ h=>h) _ _ (aq.o.split j).1).append ?_;simp only[Aq];exact⟨_,_,rfl,AL.kept am (fun _ h=>h) _ _ bV.o,Aq.kept am (fun _ h=>h) _ _ (aq.o.split (j+1)).2⟩
    have bG:=UD (Chg w w7 []) (aS.o.fresh a6 (fun y hy=>by rw[List.mem_singleton.1 hy];omega));have cn:=hZ (aR.o.kept a6 (by have W:=a2.o.lt;simp;omega));have aI:(l.set j x).length=n:=by rw[List.length_set];exact HN.o.symm
    have cZ:=UD (Cl prog 86 #[nS ak n Y,nS (nM ⟨gi,0,nN⟩) n ci] w7 (PR F ks (l.set j x) w7)) (Xz F ks (l.set j x) _ _ _ w7 (by rw[aX.o,<-bp.o];exact cB.rowC cd.o) (by rw[aI];exact bN.o.rowC bN.o.1) ay (fun b d=>Q6 (HF.o b d) bG.o.size) (fun k hk=>ce.o k (Qe _ hk)) cj.o.1 (by rw[aI];exact aX.o) (by rw[aX.o];exact dB));have co:=UD (R<w7.heap.size/\w.heap.size<=R) ⟨cn.o.lt,by have:=aw.o;omega⟩;clear a6 b8 cB ay dx b7 aI xl xf x0 x1 x2 x3 x4 x5 am
    go_wp2_with(first
     |(go_at_call 86;refine cZ.o.mono ?_;rintro e w8 ⟨F8,aF,rfl,m1,m2,m3,m4,m5⟩;obtain⟨q0,q1,q2,q3,q4,q5,rfl⟩:=kt (E7 m4).2;have c1:=hZ (E7 m4).1;have M1:=hZ m2;have M2:=hZ m3;have M4:=hZ m4;have M5:=hZ m5;have bP:=hZ (cn.o.kept m5);clear m1 m2 m3 m4 m5)
     |(refine uO bP.o c1.o ?_;intro w9 bI H9))
    refine bodyPost_ret (uP bI.o) rfl ?_;rw[bJ.o]
    have ar:∀b,F8 b->F b\/w7.heap.size<=b:=fun b d=>by
     by_cases h:b<w7.heap.size
     .exact .inl (M1.o b d h)
     .exact .inr Zj
    have dw:∀b,b∈[R]->¬F8 b:=fun b d aT=>by
     rw[List.mem_singleton.1 d]at aT;have W:=co.o;rcases ar R aT with h|h
     .have:=HF.o R h;omega
     .omega
    exact⟨F8,_,rfl,AL.kept (H9.o.keepsF M2.o dw) (fun _ h=>h) _ _ M4.o,fun b d=>⟨(ar b d).imp id (fun h=>Q7 bG.o.size h),Q6 (M2.o b d) H9.o.size⟩,(bG.o.trans M5.o).fresh H9.o (fun y hy=>by rw[List.mem_singleton.1 hy];exact co.o.2)⟩
   |false=>
    have a8:=cT.o rfl;have bJ:=hZ a8
    have ay:∀wx,Chg w wx []->Aq wx F (l++[x]) (xs++[L,M,N,P,S,T]):=fun wx hx=>by
     have am:BZ F w wx:=hx.keepsF HF.o;refine(Aq.kept am (fun _ h=>h) _ _ aq.o).append ?_;simp only[Aq];exact⟨_,[],Zh,AL.kept am (fun _ h=>h) _ _ bV.o,rfl⟩
    have df:=hZ ay;have b7:w.heap.size<=J.heap.size:=(H0.o.trans H5.o).size;have dI:J.heap.size<=w6.heap.size:=ap.o.size;have bs:=UD (∀b,b≠R->b<J.heap.size->uZ R (nS ak n Y) (nS ai n ci) b=nN) fun b W h2=>(Qs W).trans ((Qs (fun h=>by have:=bL.o b h;omega)).trans (Qs (fun h=>by have:=bo.o b h;omega)));have bt:=UD (uZ R (nS ak n Y) (nS ai n ci) R=nM 11) (Qr rfl);have au:=UD (R<J.heap.size/\w.heap.size<=R/\X≠R/\X<J.heap.size) ⟨a2.o.lt,by have:=aw.o;omega,by have:=aw.o;omega,bu.o.lt⟩;have bT:=UD (∀g,(Vl.slice ak n Y).ownBlock=nM g->uZ R (nS ak n Y) (nS ai n ci) g=nM 5) fun g m=>(Qs (fun e=>by have W:=bL.o g m;have h2:=au.o;omega)).trans (Qr m);have bS:=UD (∀g,(Vl.slice ai n ci).ownBlock=nM g->uZ R (nS ak n Y) (nS ai n ci) g=nM 9) fun g m=>(Qs (fun e=>by have W:=bo.o g m;have h2:=au.o;omega)).trans ((Qs (fun h=>cb.o g h m)).trans (Qr m));have aO:=UD (∀b,F b->b<w6.heap.size/\uZ R (nS ak n Y) (nS ai n ci) b=nN) fun b d=>⟨by have:=HF.o b d;omega,bs.o b (by have W:=HF.o b d;have h2:=au.o;omega) (by have:=HF.o b d;omega)⟩;have ag:=UD (pR w6 (uZ R (nS ak n Y) (nS ai n ci)) (vr F E R n tb ao tc ak ai Y ci s ab xs L M N P S T)) (vr.stays w6 _ F E R n tb ao tc ak ai Y ci s ab xs L M N P S T aO.o);have bF:=aS.o.keeps aA;have dG:tb<w.heap.size:=World.block_lt_of_cell? _ _ aA;have bR:=UD (w6.cell? ⟨tb,ao,nN⟩=nM (nG s)/\tb≠R/\tb<J.heap.size) ⟨bF,by have h2:=au.o;omega,Zj⟩;have cf:=UD ((l++[x]).length=n+1) (by rw[Qk,<-HN.o];rfl);have bM:=UD ((ks++[s]).length=n+1) (by rw[Qk,aX.o];rfl);have cW:=UD (Ad (ks++[s])=ab++[nG s]) (by rw[bp.o];simp[Ad]);have dC:n+1<=65536:=ch.o;clear ay b7 dI bF dG a8;go_upto_region 23 with(fail);refine uW (qF w6 (uZ R (nS ak n Y) (nS ai n ci)) vt (vr F E R n tb ao tc ak ai Y ci s ab xs L M N P S T)) ?_ ?_ ?_
    .intro ii op a t dd ho U f p az r K G
     match ii,ho with
      |0,rfl=>
       obtain⟨O,c⟩:=r;have bw:rS a 14=(nS ak n Y):=U.at 14 Yb;exact z2b
      |1,rfl=>
       obtain⟨O,c⟩:=r;have W:rS a 1=(nS (nM ⟨tb,ao,nN⟩) 1 tc):=U.at 1 Yb;exact z2b
      |2,rfl=>
       obtain⟨O,c⟩:=r;have dW:rS a 123=(nS (nM ⟨tb,ao,nN⟩) 1 tc):=c.say 1 (p ⟨1,.data⟩ Zh rfl) (lq rfl);exact z2b
      |3,rfl=>
       obtain⟨O,c⟩:=r;have dX:rS a 124=(nP (nM ⟨tb,ao,nN⟩)):=c.say 2 (p ⟨2,.data⟩ Zh rfl) (lq rfl);have ec:=c.cell bR.o.1 (lq (u:=uZ R (nS ak n Y) (nS ai n ci)) (bs.o tb bR.o.2.1 bR.o.2.2));exact z2b
      |4,rfl=>
       obtain⟨O,c⟩:=r;have di:a.tmps.getD 125 undef=(nG s):=c.say 3 (p ⟨3,.data⟩ Zh rfl) (lq rfl);have dO:a.tmps[125]?.getD undef= nG s:=by rw[<-Qp];exact di
       exact z2c
      |5,rfl=>
       obtain⟨O,c⟩:=r;have dV:rS a 122=(nS ak n Y):=c.say 0 (p ⟨0,.data⟩ Zh rfl) (lq rfl);have bh:=c.say 4 (p ⟨4,.data⟩ Zh rfl) (lq rfl);obtain⟨g3,hy,a7,cC⟩:=bh;have b5:a.tmps.getD 126 undef= nS (nM ⟨g3,0,nN⟩) 1 1:=hy;have b6:a.tmps.getD 122 undef=(nS ak n Y):=c.say 0 (p ⟨0,.data⟩ Zh rfl) (lq rfl);have z:Ba t (nS ak n Y) 9 1 n ab:=aY.o.sameB fun g m=>c.old g (aY.o.lt m) (lr (u:=uZ R (nS ak n Y) (nS ai n ci)) (bT.o g m) f);rw[Qr ZN];refine mi _ _ 27 rfl 9 Ho 1 16 ZM underlying27 Cf rfl (nS ak n Y) n ab (by simpa[Act.eval]using b6) z (nM ⟨g3,0,nN⟩) 1 1 [nG s] (by simpa[Act.eval]using b5) rfl (fun i v H=>⟨g3,0,rfl,by rw[Nat.zero_add];exact(a7.cell i).trans H⟩) (fun u hu=>by rw[List.mem_singleton.1 hu];rfl) Zj Zj ?_;intro a4 ax w7 D k2 k3
       exact G _ _ Zh ⟨_,c.next ag.o f (O':=fun b=>(Vl.slice a4 (n+1) ax).ownBlock=nM b) k2 ⟨a4,ax,rfl,D,fun g m=>m⟩ (fun b d=>D.lt d) (fun b d=>by
        rcases k3 b d with h|h
        .exact .inr (.inl ⟨aY.o.lt h,bT.o b h⟩)
        .exact .inl h) (fun b d _=> .inl ⟨aY.o.lt (qv d),bT.o b (qv d)⟩)⟩
      |6,rfl=>
       obtain⟨O,c⟩:=r;have bz:rS a 15=(nS ai n ci):=U.at 15 Yb;exact z2b
      |7,rfl=>
       obtain⟨O,c⟩:=r;have h7:rS a 7=(nP (nM ⟨X,0,nN⟩)):=U.at 7 Yb;obtain⟨zl,zf,z0,z1,z2,z3,z4,z5⟩:=(c.blk bv.o (lq (u:=uZ R (nS ak n Y) (nS ai n ci)) (bs.o X au.o.2.2.1 au.o.2.2.2))).cells6;exact z2b
      |8,rfl=>
       obtain⟨O,c⟩:=r;have dk:a.tmps.getD 129 undef=(nA #[L,M,N,P,S,T]):=c.say 7 (p ⟨7,.data⟩ Zh rfl) (lq rfl);have dP:a.tmps[129]?.getD undef= nA #[L,M,N,P,S,T]:=by rw[<-Qp];exact dk
       exact z2c
      |9,rfl=>
       obtain⟨O,c⟩:=r;have dY:rS a 128=(nS ai n ci):=c.say 6 (p ⟨6,.data⟩ Zh rfl) (lq rfl);have bh:=c.say 8 (p ⟨8,.data⟩ Zh rfl) (lq rfl);obtain⟨g3,hy,a7,cC⟩:=bh;have b5:a.tmps.getD 130 undef= nS (nM ⟨g3,0,nN⟩) 1 1:=hy;have b6:a.tmps.getD 128 undef=(nS ai n ci):=c.say 6 (p ⟨6,.data⟩ Zh rfl) (lq rfl);have z:Ba t (nS ai n ci) 29 6 n xs:=aP.o.sameB fun g m=>c.old g (aP.o.lt m) (lr (u:=uZ R (nS ak n Y) (nS ai n ci)) (bS.o g m) f);rw[Qr ZN];refine mi _ _ 26 rfl 29 NP 6 88 ZM underlying26 Dp rfl (nS ai n ci) n xs (by simpa[Act.eval]using b6) z (nM ⟨g3,0,nN⟩) 1 1 [L,M,N,P,S,T] (by simpa[Act.eval]using b5) rfl (fun i v H=>⟨g3,0,rfl,by rw[Nat.zero_add];exact(a7.cell i).trans H⟩) HO.o Zj Zj ?_;intro a4 ax w7 D k2 k3
       exact G _ _ Zh ⟨_,c.next ag.o f (O':=fun b=>(Vl.slice a4 (n+1) ax).ownBlock=nM b) k2 ⟨a4,ax,rfl,D,fun g m=>m⟩ (fun b d=>D.lt d) (fun b d=>by
        rcases k3 b d with h|h
        .exact .inr (.inl ⟨aP.o.lt h,bS.o b h⟩)
        .exact .inl h) (fun b d _=> .inl ⟨aP.o.lt (qv d),bS.o b (qv d)⟩)⟩
      |10,rfl=>
       obtain⟨O,c⟩:=r;have dF:=c.say 5 (p ⟨5,.data⟩ Zh rfl) (lq rfl);obtain⟨a5,c5,dK,ba,_⟩:=dF;have dj:a.tmps.getD 127 undef= nS a5 (n+1) c5:=dK;have ba:Ba t (a.tmps.getD 127 undef) 9 1 (n+1) (ab++[nG s]):=ba;rw[dj]at ba;have bj:=c.say 9 (p ⟨9,.data⟩ Zh rfl) (lq rfl);obtain⟨a9,c9,dL,bb,_⟩:=bj;have dl:a.tmps.getD 131 undef= nS a9 (n+1) c9:=dL;have bb:Ba t (a.tmps.getD 131 undef) 29 6 (n+1) (xs++[L,M,N,P,S,T]):=bb;rw[dl]at bb;have dH:Aq t F (l++[x]) (xs++[L,M,N,P,S,T]):=Aq.kept (re fun b d=>c.old b (aO.o b d).1 (lq (u:=uZ R (nS ak n Y) (nS ai n ci)) (aO.o b d).2)) (fun _ h=>h) _ _ (df.o w6 aS.o);have dA:=Xz F (ks++[s]) (l++[x]) (nS a5 (n+1) c5) (nS a9 (n+1) c9) (xs++[L,M,N,P,S,T]) t (by rw[bM.o,cW.o];exact ba.rowC ba.1) (by rw[cf.o];exact bb.rowC bb.1) dH (fun b d=>Q6 (aO.o b d).1 c.sz) ce.o (cj.o.2 rfl) (by rw[bM.o,cf.o]) (by rw[bM.o];exact dC);go_simp;go_at_call 86;refine dA.mono ?_;rintro e w7 ⟨F8,aF,rfl,m1,m2,m3,m4,m5⟩
       exact G _ _ Zh (c.new ag.o f m5 (O':=fun b=>F8 b/\t.heap.size<=b) ⟨F8,aF,rfl,by rw[bJ.o];exact m4,fun b d=>by
        by_cases h:b<t.heap.size
        .exact .inl (m2 b d h)
        .exact .inr ⟨d,Zj⟩⟩ (fun b d=>⟨d.2,m3 b d.1⟩))
      |11,rfl=>
       obtain⟨O,c⟩:=r;have dD:=c.say 10 (p ⟨10,.data⟩ Zh rfl) (lr (u:=vt) rfl f);obtain⟨F8,aF,hy,bl,ar⟩:=dD;have dm:a.tmps.getD 132 undef= nA aF.toArray:=hy;have dr:a.tmps.getD 8 undef= nP (nM ⟨R,0,nN⟩):=U.at 8 Yb;have bB:=c.blk aR.o (lr (u:=uZ R (nS ak n Y) (nS ai n ci)) bt.o f);have v6:=E7 bl
       have cD:¬F8 R:=fun d=>by
        rcases ar R d with h|h
        .have W:=HF.o R h;have h2:=au.o;omega
        .obtain⟨k,D,k2⟩:=(c.own 10 (p ⟨10,.data⟩ Zh rfl) (lr (u:=vt) rfl f) R h).2 aR.o.lt;rw[bt.o]at D;injection D with D
         rw[<-D,f]at k2;cases k2
       rw[Qr ZN];refine Gj _ _ _ rfl R aF (by simpa[Act.eval]using dr) (by simpa[Act.eval]using dm) 29 zV bB (by rw[v6.2];exact A9) (by rw[v6.2];rfl) v6.1 ?_;intro w7 ed cz b0
       have bD:∀b,F8 b->b<t.heap.size:=fun b d=>by
        rcases ar b d with h|h
        .exact Q6 (aO.o b h).1 c.sz
        .exact(c.own 10 (p ⟨10,.data⟩ Zh rfl) (lr (u:=vt) rfl f) b h).1
       exact G undef _ (fun _=>rfl) ⟨_,c.next ag.o f (O':=fun b=>b=R\/O 10 b) b0 ⟨F8,aF,cz,v6.2,AL.kept (b0.keepsF bD (fun b d aT=>cD (by rw[<-List.mem_singleton.1 d];exact aT))) (fun _ h=>h) _ _ bl,fun b d=>(ar b d).imp id .inr,.inl rfl,cD⟩ (fun b d=>by
        rcases d with rfl|d
        .exact cz.lt
        .exact Q6 (c.own 10 (p ⟨10,.data⟩ Zh rfl) (lr (u:=vt) rfl f) b d).1 b0.size) (fun b d=>by
        rcases d with rfl|d
        .exact .inr (.inl ⟨aR.o.lt,bt.o⟩)
        .exact .inr (.inr ⟨10,rfl,p ⟨10,.data⟩ Zh rfl,d⟩)) (fun b d _=> .inl (by rw[List.mem_singleton.1 d];exact⟨aR.o.lt,bt.o⟩))⟩
      |_+12,ho=>exact absurd ho Zh
    .intro a w8 dd U hd r;obtain⟨O,c⟩:=r;have dE:=c.say 11 (hd 11 ZM) (lq rfl);obtain⟨F8,aF,bB,h6,bl,ar,dv,du⟩:=dE
     have bE:∀b,F8 b->F b\/w.heap.size<=b:=fun b d=>by
      rcases ar b d with h|h
      .exact .inl h
      .by_cases ah:b<w6.heap.size
       .obtain⟨k,D,_⟩:=(c.own 11 (hd 11 ZM) (lq rfl) b h).2 ah;refine .inr ?_;by_cases d9:b<w.heap.size
        .have W:=au.o;have h2:=bs.o b Zj (by have:=(H0.o.trans H5.o).size;omega);rw[h2]at D;cases D
        .omega
       .exact .inr (by have:=aS.o.size;omega)
     have bD:∀b,F8 b->b<w8.heap.size:=fun b d=>by
      rcases ar b d with h|h
      .exact Q6 (aO.o b h).1 c.sz
      .exact(c.own 11 (hd 11 ZM) (lq rfl) b h).1
     have aL:Chg w w8 []:=aS.o.fresh (c.chg (R::((Vl.slice ak n Y).ownBlock.toList++(Vl.slice ai n ci).ownBlock.toList)) (fun b k hk _=>by
      unfold uZ at hk;split at hk
      .rename_i e;simp[e]
      .split at hk
       .rename_i e;simp[e]
       .split at hk
        .rename_i e;simp[e]
        .cases hk)) (fun y hy=>by
      have W:=au.o;have h2:=(H0.o.trans H5.o).size;rcases Qh.1 hy with h|h
      .omega
      .rcases Qf.1 h with h|h
       .have:=bL.o y (by simpa using h);omega
       .have:=bo.o y (by simpa using h);omega)
     obtain⟨q0,q1,q2,q3,q4,q5,rfl⟩:=kt h6;have cN:=hZ bB;have de:=hZ bl;have c0:=hZ bE;have cY:=hZ bD;have cO:=hZ aL;clear c bB h6 bl ar dv du bE bD aL hd;obtain⟨fu,hu,rfl⟩:=U.fin2 [122,123,124,125,126,127,128,129,130,131,132] Yb;clear U hu;go_wp2_with fail;refine bodyPost_ret (uP cN.o) rfl ?_;exact⟨F8,_,rfl,de.o,fun b d=>⟨c0.o b d,cY.o b d⟩,cO.o⟩
    .exact⟨_,uB.start _ _ _ _ _ (Chg.refl w6 _).drew⟩
  .exact⟨_,uB.start _ _ _ _ _ (Chg.refl J _).drew⟩
theorem rM(s:BY)(t x:Tr)(F:Nat->Prop)(cs W:List Vl)(ta:Option Addr)(z:Nat)(w:Wl)(q:Gg s t=0)(g:AL w F t cs)(f:AL w F x W)(Q:∀b,F b->b<w.heap.size)(Z:Bt t)(aq:Utf.Al (AH [s])=true/\(AH [s]).size<=2147483648)(hs:s.size<=16777216)(hT:As w (nS ta 1 z) 1 1 (Ad [s])):
  Cl prog 47 #[nA cs.toArray,nS ta 1 z,nI nX 1,nA W.toArray] w (qq F (pS 1 x [s] t) w):=by
 have am:pS 1 x [s] t=Cj s x t:=by unfold pS;rw[Qr ⟨rfl,rfl⟩]
 rw[am];obtain⟨J,K,L,M,N,O,rfl⟩:=kt (E7 f).2;obtain⟨H,I,rfl,ai⟩:=hT.base ZM ZM;have ad:w.cell? ⟨H,I,nN⟩=nM (nG s):=ai 0 _ rfl;have ar:JA s:=aq;have aa:=Z.many;have ab:=(E7 f).1;have au:=g
 have V:∀(r:Nat) (i:Int) (b:Bool),r<=1->pV r t s=(i,b)->∀c,Chg w c []->Cl prog 85 #[nA cs.toArray,nG s,nI nX r] c fun e w'=>e= nR (nT #[nI nX i,.bool b])/\Chg c w' []:=fun r i b Y P c f=>by
  refine(qn r t F cs s c (AL.kept (f.keepsF Q) (fun _ h=>h) _ _ au) Zj hs).mono ?_;rintro e w' ⟨A,R⟩;rw[P]at A;exact⟨A,R⟩
 have m:∀c,Chg w c []->Cl prog 85 #[nA cs.toArray,nG s,nI nX 0] c fun e w'=>(∃(i:Int) (b:Bool),e= nR (nT #[nI nX i,.bool b]))/\Chg c w' []:=fun c f=>(V 0 _ _ ZM rfl c f).mono fun _ _ h=>⟨⟨_,_,h.1⟩,h.2⟩;cases t with
 |list l=>
  obtain⟨j,an,S,af⟩:=sT (x:=x) q;have y:=V 1 _ _ ZM S;rw[af];simp only[AL]at g;obtain⟨D,G,u,C,xs,rfl,T,U,ah⟩:=g;rw[Jy]at m y|-;exact uU s [] l x _ F D u G C 0 l.length j 5 false [] xs J K L M N O H I z w (.inl ⟨rfl,rfl,rfl,an,ah⟩) rfl aa m y T U f Q ab ad
 |obj ks l=>
  have hg:Av (.obj ks l):=Z.good;have p:Cy ks:=hg.1;have B:ks.length=l.length:=hg.2.1
  have ag:∀k∈ks++[s],JA k:=fun k d=>by
   rcases Qf.1 d with h|h
   .exact⟨p.right k h,p.small k h⟩
   .rw[List.mem_singleton.1 h];exact ar
  simp only[AL]at g;obtain⟨D,G,u,C,xs,rfl,aw,ap,T,U⟩:=g;obtain⟨ax,ay,A,aj⟩:=ap.cell;injection A with ak av al
  subst ak;subst al
  have ao:∀i v,(Ad ks)[i]? =nM v->∃b o,u=nM ⟨b,o,nN⟩/\w.cell? ⟨b,o+i,nN⟩=nM v:=fun i v g=>by
   obtain⟨b,o,e,_,R⟩:=aj i v g;exact⟨b,o,e,R⟩
  have X:∀(j:Nat) (n:Bool) (E:Tr),pV 1 (.obj ks l) s=((j:Int),n)->Cj s x (.obj ks l)=E->(n=true->j<l.length/\E=D1 ks (l.set j x))->(n=false->E=D1 (ks++[s]) (l++[x]))->(n=false->(ks++[s]).Nodup)->Cl prog 47 #[nA (vC 6 false 0 Dz (nS D l.length G) (nS u ks.length C)).toArray,nS (nM ⟨H,I,nN⟩) 1 z,nI nX 1,nA #[J,K,L,M,N,O]] w (qq F (Cj s x (.obj ks l)) w):=fun j n E S ae Y P h3=>by
   have y:=V 1 _ _ ZM S;have m:=m;rw[ae];rw[Jy]at m y|-;exact uU s ks l x _ F D u G C ks.length l.length j 6 n _ xs J K L M N O H I z w (.inr ⟨rfl,B.symm,Y,P,ag,⟨p.nodup,h3⟩,ao,rfl,B⟩) rfl aa m y T U f Q ab ad
  by_cases d:C4 ks s=true
  .exact X (A5 ks s) true _ (Qr d) (Qr d) (fun _=>⟨by rw[<-B];exact Dk (Cp.1 d),(p.objT (by rw[List.length_set];exact B)).symm⟩) (fun h=>by cases h) (fun h=>by cases h)
  .exact X ks.length false _ (Qs d) (Qs d) (fun h=>by cases h) (fun _=>rfl) (fun _=>List.nodup_append.2 ⟨p.nodup,Zh,fun a ha b hb=>by rw[List.mem_singleton.1 hb];intro e;exact Ys d (by rw[<-e];exact ha)⟩)
 |null=>cases q
 |flag b=>cases q
 |num b=>cases q
 |text b=>cases q
end
end Go.Proofs.YtpdnhfkacgdocaaGreatDoor

/- Part 2 of the proof of patchTells_card. -/
import Derived.Test.YtkfnkppdhcaeoaaGreatDoorM28
import Derived.Test.YtkfnkppdhcaeoaaGreatDoorW01
set_option maxRecDepth 100000
set_option maxHeartbeats 32000000
set_option linter.all false
namespace Go.Proofs.YtkfnkppdhcaeoaaGreatDoor
open Go renaming Calls->Cl,TypeId->Ti,Value->Vl,World->Wl
section
open Go Go.RowKit Tree Ptr
structure eR(ks:List BY)(l:List Tr)(vs:List Vl)(F:Nat->Prop)(la:Option Addr)(w:Wl):Prop where
 len:ks.length=l.length
 row:LP w F la (Kp ks vs)
 kids:Dc w F l vs
 lt:∀b,F b->b<w.heap.size
 many:ks.length<=65536
theorem eR.kept{ks:List BY}{l:List Tr}{vs:List Vl}{F:Nat->Prop}{d:Option Addr}{w w':Wl}(h:eR ks l vs F d w)(a:Chg w w' []):eR ks l vs F d w':=by
 have c:=a.keepsF h.lt;exact⟨h.len,h.row.kept c (fun _ x=>x),Dc.kept c (fun _ x=>x) _ _ h.kids,fun b e=>Q6 (h.lt b e) a.size,h.many⟩
theorem eR.at_{ks:List BY}{l:List Tr}{vs:List Vl}{F:Nat->Prop}{m:Option Addr}{w:Wl}(h:eR ks l vs F m w){a:BY}(i:C4 ks a=true):
  ∃b o c d,m=some ⟨b,o,none⟩/\A5 ks a<ks.length/\w.cell? ⟨b,o+A5 ks a*2+1,none⟩=some (.iface c d)/\Hm w F (l.getD (A5 ks a) .null) (.iface c d):=by
 have j:=Dk (Cp.1 i);have s:=Gk (Cp.1 i);obtain⟨t,k⟩:∃t,l[A5 ks a]? =some t:=⟨_,Q9 (by rw[<-h.len];exact j)⟩
 obtain⟨v,q,g⟩:=h.kids.get _ _ k;obtain⟨c,d,rfl⟩:=g.iface;obtain⟨f,n⟩:=eM s q
 rcases h.row with p|⟨b,o,e,_,r⟩
 .rw[p]at f;simp at f
 .exact⟨b,o,c,d,e,j,by rw[Nat.add_assoc];exact r _ _ n,by rw[List.getD_eq_getElem?_getD,k];exact g⟩
end
section
open _root_.Go.Proofs.Tryz
open Go Go.Shelf Go.RowKit Go.Lib Tree Ptr
def dJ(d w:Wl)(T:Ti)(c:Vl)(l:List Vl)(u:Vl)(lit a:Bool)(e b:Vl):Prop:=
 (a=false->AK w c T l)/\(a=true->AK w b T (l++[u])/\∀g,b.ownBlock=some g->c.ownBlock=some g\/d.heap.size<=g)/\
 (lit=true->a=false->∃g,e= .slice (some ⟨g,0,none⟩) 1 1/\d.heap.size<=g/\Ac w g [u] T)
theorem dJ.kept{j w w':Wl}{T:Ti}{i u n m:Vl}{l:List Vl}{lit k:Bool}{cs:List Nat}(h:dJ j w T i l u lit k n m)(d:Chg w w' cs)(c:∀x∈cs,x<j.heap.size/\i.ownBlock≠some x:=by simp):dJ j w' T i l u lit k n m:=
 ⟨fun e=>(h.1 e).kept d (fun g f a=>(c g a).2 f),fun e=>⟨(h.2.1 e).1.kept d (fun g f a=>by
  rcases(h.2.1 e).2 g f with b|b
  .exact(c g a).2 b
  .have:=(c g a).1;omega),(h.2.1 e).2⟩,fun o p=>by
  obtain⟨g,b,q,r⟩:=h.2.2 o p
  exact⟨g,b,q,r.kept d (fun a=>by have:=(c g a).1;omega)⟩⟩
structure dL(w:Wl)(X b:Nat)(sl sk:Vl)(vs kl:List Vl):Prop where
 cell:Ac w X [.pointer (some ⟨b,0,none⟩)] 175
 blk:Ac w b [sl,sk] 177
 items:AK w sl 95 vs
 keys:AK w sk 9 kl
 ne:X≠b
 ni:∀g,sl.ownBlock=some g->g≠b/\g≠X
 nk:∀g,sk.ownBlock=some g->g≠b/\g≠X/\sl.ownBlock≠some g
def dI(b:Nat)(a:BY)(c sk v:Vl)(j:Nat)(y:Vl):Prop:=match j with
 |0=>y= .pointer (some ⟨b,0,none⟩)
 |1=>y= .pointer (some ⟨b,0,none⟩)
 |2=>y= .pointer (some ⟨b,0,none⟩)
 |3=>y= .pointer (some ⟨b,0,none⟩)
 |4=>y= .pointer (some ⟨b,1,none⟩)
 |5=>y=sk
 |6=>y= .string a
 |9=>y= .pointer (some ⟨b,0,none⟩)
 |10=>y= .pointer (some ⟨b,0,none⟩)
 |11=>y= .pointer (some ⟨b,0,none⟩)
 |12=>y= .pointer (some ⟨b,0,none⟩)
 |13=>y=c
 |14=>y=v
 |17=>y= .pointer (some ⟨b,0,none⟩)
 |18=>y= .pointer (some ⟨b,1,none⟩)
 |20=>y= .pointer (some ⟨b,0,none⟩)
 |21=>y= .pointer (some ⟨b,0,none⟩)
 |22=>y= .pointer (some ⟨b,0,none⟩)
 |_=>True
structure dH(w4:Wl)(X b:Nat)(sl sk:Vl)(vs kl:List Vl)(key:BY)(v:Vl)(d:Nat->Bool)(f:Nat->Vl)(w:Wl):Prop where
 chg:Chg w4 w (b::(sl.ownBlock.toList++sk.ownBlock.toList))
 vals:∀j,d j=true->dI b key sl sk v j (f j)
 cell:Ac w X [.pointer (some ⟨b,0,none⟩)] 175
 blk:Ac w b [if d 23 then f 16 else sl,if d 19 then f 8 else sk] 177
 keys:dJ w4 w 9 sk kl (.string key) (d 7) (d 8) (f 7) (f 8)
 items:dJ w4 w 95 sl vs v (d 15) (d 16) (f 15) (f 16)
 sep:d 8=true->d 16=true->∀g,(f 8).ownBlock=some g->(f 16).ownBlock≠some g
section
variable {w4 w w':Wl} {X b:Nat} {sl sk v:Vl} {vs kl:List Vl} {key:BY} {d:Nat->Bool} {f:Nat->Vl}
theorem dH.vals'{j:Nat}{y:Vl}(h:dH w4 X b sl sk vs kl key v d f w)(c:dI b key sl sk v j y):∀k,BA d j k=true->dI b key sl sk v k (Eb f j y k):=fun k a=>by
 by_cases e:k=j
 .subst e;rw[Bf];exact c
 .rw[AA f y e];rw[An d e]at a;exact h.vals k a
theorem dH.put{j:Nat}{y:Vl}(h:dH w4 X b sl sk vs kl key v d f w)(l:j≠7/\j≠8/\j≠15/\j≠16/\j≠19/\j≠23)(m:dI b key sl sk v j y):dH w4 X b sl sk vs kl key v (BA d j) (Eb f j y) w:=by
 obtain⟨g,c,e,a,i,k⟩:=l;refine⟨h.chg,h.vals' m,h.cell, ?_, ?_, ?_, ?_⟩
 .rw[An d (Ne.symm k),An d (Ne.symm i),AA f y (Ne.symm a),AA f y (Ne.symm c)];exact h.blk
 .rw[An d (Ne.symm g),An d (Ne.symm c),AA f y (Ne.symm g),AA f y (Ne.symm c)];exact h.keys
 .rw[An d (Ne.symm e),An d (Ne.symm a),AA f y (Ne.symm e),AA f y (Ne.symm a)];exact h.items
 .rw[An d (Ne.symm c),An d (Ne.symm a),AA f y (Ne.symm c),AA f y (Ne.symm a)];exact h.sep
theorem dH.lit7{g:Nat}(h:dH w4 X b sl sk vs kl key v d f w)(i:d 8=false)(a:Chg w w' [])(k:w.heap.size<=g)(j:Ac w' g [.string key] 9):dH w4 X b sl sk vs kl key v (BA d 7) (Eb f 7 (.slice (some ⟨g,0,none⟩) 1 1)) w':=by
 refine⟨h.chg.trans (a.none _),h.vals' trivial,h.cell.kept a, ?_, ?_, ?_, ?_⟩
 .rw[An d ZM,An d ZM,AA f _ ZM,AA f _ ZM];exact h.blk.kept a
 .have c:=h.keys.kept a
  refine⟨fun e=>c.1 (by rw[An d ZM]at e;exact e),fun e=> ?_,fun _ _=>⟨g,by rw[Bf],Q7 h.chg.size k,j⟩⟩;rw[An d ZM,i]at e;cases e
 .have c:=h.items.kept a
  rw[An d ZM,An d ZM,AA f _ ZM,AA f _ ZM];exact c
 .rw[An d ZM,An d ZM,AA f _ ZM,AA f _ ZM];exact h.sep
theorem dH.lit15{g:Nat}(h:dH w4 X b sl sk vs kl key v d f w)(i:d 16=false)(a:Chg w w' [])(k:w.heap.size<=g)(j:Ac w' g [v] 95):dH w4 X b sl sk vs kl key v (BA d 15) (Eb f 15 (.slice (some ⟨g,0,none⟩) 1 1)) w':=by
 refine⟨h.chg.trans (a.none _),h.vals' trivial,h.cell.kept a, ?_, ?_, ?_, ?_⟩
 .rw[An d ZM,An d ZM,AA f _ ZM,AA f _ ZM];exact h.blk.kept a
 .have c:=h.keys.kept a
  rw[An d ZM,An d ZM,AA f _ ZM,AA f _ ZM];exact c
 .have c:=h.items.kept a
  refine⟨fun e=>c.1 (by rw[An d ZM]at e;exact e),fun e=> ?_,fun _ _=>⟨g,by rw[Bf],Q7 h.chg.size k,j⟩⟩;rw[An d ZM,i]at e;cases e
 .rw[An d ZM,An d ZM,AA f _ ZM,AA f _ ZM];exact h.sep
theorem dH.app8{y:Vl}(H:dL w4 X b sl sk vs kl)(h:dH w4 X b sl sk vs kl key v d f w)(s:d 19=false)(i:Chg w w' sk.ownBlock.toList)(u:AK w' y 9 (kl++[.string key]))(q:∀g,y.ownBlock=some g->sk.ownBlock=some g\/w.heap.size<=g):dH w4 X b sl sk vs kl key v (BA d 8) (Eb f 8 y) w':=by
 have j:∀g,g∈sk.ownBlock.toList->sk.ownBlock=some g:=fun g n=>by simpa using n
 refine⟨h.chg.trans (i.mono fun k _ a=> ?_),h.vals' trivial,h.cell.kept i (fun a=> ?_), ?_, ?_, ?_, ?_⟩
 .simp only[Qh,Qf];exact .inr (.inr a)
 .exact(H.nk _ (j _ a)).2.1 rfl
 .have r:=h.blk.kept i (fun a=>(H.nk _ (j _ a)).1 rfl)
  rw[An d ZM,An d ZM,s,AA f y (show(16:Nat)≠8 by decide)];rw[s]at r;simpa using r
 ·
  refine⟨(fun e=>by rw[BG]at e;cases e),fun _=> ?_,(fun _ e=>by rw[BG]at e;cases e)⟩;rw[Bf];exact⟨u,fun g n=>(q g n).imp id fun c=>Q7 h.chg.size c⟩
 .rw[An d ZM,An d ZM,AA f y ZM,AA f y ZM]
  exact h.items.kept i fun x t=>⟨(H.keys.lt (j x t)),(H.nk x (j x t)).2.2⟩
 .intro B o g c l
  rw[Bf]at c;rw[AA f y ZM]at l;rw[An d ZM]at o;obtain⟨z,A⟩:=h.items.2.1 o
  rcases q g c with m|m
  .rcases A g l with p|p
   .exact(H.nk g m).2.2 p
   .have:=H.keys.lt m;omega
  .have:=z.lt l;omega
theorem dH.app16{y:Vl}(H:dL w4 X b sl sk vs kl)(h:dH w4 X b sl sk vs kl key v d f w)(s:d 23=false)(i:Chg w w' sl.ownBlock.toList)(u:AK w' y 95 (vs++[v]))(q:∀g,y.ownBlock=some g->sl.ownBlock=some g\/w.heap.size<=g):dH w4 X b sl sk vs kl key v (BA d 16) (Eb f 16 y) w':=by
 have j:∀g,g∈sl.ownBlock.toList->sl.ownBlock=some g:=fun g m=>by simpa using m
 refine⟨h.chg.trans (i.mono fun k _ c=> ?_),h.vals' trivial,h.cell.kept i (fun c=> ?_), ?_, ?_, ?_, ?_⟩
 .simp only[Qh,Qf];exact .inr (.inl c)
 .exact(H.ni _ (j _ c)).2 rfl
 .have r:=h.blk.kept i (fun c=>(H.ni _ (j _ c)).1 rfl)
  rw[An d ZM,An d ZM,s,AA f y (show(8:Nat)≠16 by decide)];rw[s]at r;simpa using r
 .rw[An d ZM,An d ZM,AA f y ZM,AA f y ZM]
  exact h.keys.kept i fun x t=>⟨(H.items.lt (j x t)),fun e=>(H.nk x e).2.2 (j x t)⟩
 ·
  refine⟨(fun e=>by rw[BG]at e;cases e),fun _=> ?_,(fun _ e=>by rw[BG]at e;cases e)⟩;rw[Bf];exact⟨u,fun g m=>(q g m).imp id fun a=>Q7 h.chg.size a⟩
 .intro n B g a o
  rw[Bf]at o;rw[AA f y ZM]at a;rw[An d ZM]at n;obtain⟨z,A⟩:=h.keys.2.1 n
  rcases q g o with l|l
  .rcases A g a with p|p
   .exact(H.nk g p).2.2 l
   .have:=H.items.lt l;omega
  .have:=z.lt a;omega
theorem dH.store19(H:dL w4 X b sl sk vs kl)(h:dH w4 X b sl sk vs kl key v d f w):dH w4 X b sl sk vs kl key v (BA d 19) (Eb f 19 undef) (w.setCell ⟨b,1,none⟩ (f 8)):=by
 have c:Chg w (w.setCell ⟨b,1,none⟩ (f 8)) [b]:=(Chg.refl w [b]).setCell _ _ Zh;have i:=H.blk.lt;refine⟨h.chg.trans (c.mono fun k _ g=>by simp at g;subst g;simp),h.vals' trivial,h.cell.kept c (by simpa using H.ne), ?_, ?_, ?_, ?_⟩
 .rw[An d ZM,BG,Qr rfl,AA f _ ZM,AA f _ ZM]
  exact h.blk.set 1 _
 .rw[An d ZM,An d ZM,AA f _ ZM,AA f _ ZM]
  exact h.keys.kept c fun x a=>by simp at a;subst a;exact⟨i,fun e=>(H.nk _ e).1 rfl⟩
 .rw[An d ZM,An d ZM,AA f _ ZM,AA f _ ZM]
  exact h.items.kept c fun x a=>by simp at a;subst a;exact⟨i,fun e=>(H.ni _ e).1 rfl⟩
 .rw[An d ZM,An d ZM,AA f _ ZM,AA f _ ZM];exact h.sep
theorem dH.store23(H:dL w4 X b sl sk vs kl)(h:dH w4 X b sl sk vs kl key v d f w):dH w4 X b sl sk vs kl key v (BA d 23) (Eb f 23 undef) (w.setCell ⟨b,0,none⟩ (f 16)):=by
 have c:Chg w (w.setCell ⟨b,0,none⟩ (f 16)) [b]:=(Chg.refl w [b]).setCell _ _ Zh;have i:=H.blk.lt;refine⟨h.chg.trans (c.mono fun k _ g=>by simp at g;subst g;simp),h.vals' trivial,h.cell.kept c (by simpa using H.ne), ?_, ?_, ?_, ?_⟩
 .rw[BG,Qr rfl,An d ZM,AA f _ ZM,AA f _ ZM]
  exact h.blk.set 0 _
 .rw[An d ZM,An d ZM,AA f _ ZM,AA f _ ZM]
  exact h.keys.kept c fun x a=>by simp at a;subst a;exact⟨i,fun e=>(H.nk _ e).1 rfl⟩
 .rw[An d ZM,An d ZM,AA f _ ZM,AA f _ ZM]
  exact h.items.kept c fun x a=>by simp at a;subst a;exact⟨i,fun e=>(H.ni _ e).1 rfl⟩
 .rw[An d ZM,An d ZM,AA f _ ZM,AA f _ ZM];exact h.sep
end
def dK(X b:Nat)(c sk:Vl)(vs h:List Vl)(f:BY)(v:Vl)(w:Wl)(e:Ending)(w':Wl):Prop:=
 e= .returned (.tuple #[])/\∃d a,dL w' X b d a (vs++[v]) (h++[.string f])/\Chg w w' (b::(c.ownBlock.toList++sk.ownBlock.toList))/\(∀g,d.ownBlock=some g->c.ownBlock=some g\/w.heap.size<=g)/\(∀g,a.ownBlock=some g->sk.ownBlock=some g\/w.heap.size<=g)
theorem dN(X b:Nat)(u sk:Vl)(vs n:List Vl)(r:BY)(s:Ti)(x:Vl)(w:Wl)(H:dL w X b u sk vs n)(hn:(vs.length+1)*16<=140737488355328/\vs.length<=140737488355328)(Y:(n.length+1)*16<=140737488355328/\n.length<=140737488355328):
  Cl prog 88 #[.string r,.iface s x,.pointer (some ⟨X,0,none⟩)] w (dK X b u sk vs n r (.iface s x) w):=by
 obtain⟨R,C⟩:=Ue (World.drew w)
 have U:=hZ C;have D:Hid (Chg w R []):=by rw[C];exact hZ (Chg.refl w []).drew
 have j:Hid (dL R X b u sk vs n):=by rw[C];exact hZ ⟨H.cell.drew,H.blk.drew,H.items.kept (bs:=[]) (Chg.refl w []).drew Zh,H.keys.kept (bs:=[]) (Chg.refl w []).drew Zh,H.ne,H.ni,H.nk⟩
 have S:=hZ hn;have T:=hZ Y;clear H hn Y C;go_enter func88,ntmps88
 refine wp_region_any Yb ?_;change wpAny _ _ _ _ _ _ _ (World.drew _);rw[<-U.o];refine Dg _ (dH R X b u sk vs n r (.iface s x)) Yb ?_ ?_ _ ?_
 .intro ii op a wa k d p o i v c K f
  match ii,d with
  |0,d=>
   obtain rfl:=Q5 d;have G:a.tmps.getD 2 undef= .pointer (some ⟨X,0,none⟩):=p.at 2 Yb;have l:=c.cell.cell 0;simp only[Qa]at l;rw[Qr (by simp[Region.wanted])];go_simp
   exact f _ _ Zh (c.put ZM (by simp[dI]))
  |1,d=>
   obtain rfl:=Q5 d;have G:a.tmps.getD 2 undef= .pointer (some ⟨X,0,none⟩):=p.at 2 Yb;have l:=c.cell.cell 0;simp only[Qa]at l;rw[Qr (by simp[Region.wanted])];go_simp
   exact f _ _ Zh (c.put ZM (by simp[dI]))
  |2,d=>
   obtain rfl:=Q5 d;have G:a.tmps.getD 2 undef= .pointer (some ⟨X,0,none⟩):=p.at 2 Yb;have l:=c.cell.cell 0;simp only[Qa]at l;rw[Qr (by simp[Region.wanted])];go_simp
   exact f _ _ Zh (c.put ZM (by simp[dI]))
  |3,d=>
   obtain rfl:=Q5 d;have h7:a.tmps.getD 7 undef= .pointer (some ⟨b,0,none⟩):=c.vals 2 (i ⟨2,.data⟩ Zh rfl);rw[Qr (by simp[Region.wanted])];go_simp
   exact f _ _ Zh (c.put ZM (by simp[dI]))
  |4,d=>
   obtain rfl:=Q5 d;have h8:a.tmps.getD 8 undef= .pointer (some ⟨b,0,none⟩):=c.vals 3 (i ⟨3,.data⟩ Zh rfl);rw[Qr (by simp[Region.wanted])];go_simp
   exact f _ _ Zh (c.put ZM (by simp[dI]))
  |5,d=>
   obtain rfl:=Q5 d;have h9:a.tmps.getD 9 undef= .pointer (some ⟨b,1,none⟩):=c.vals 4 (i ⟨4,.data⟩ Zh rfl)
   have E:k 19=false:=by
    cases e:k 19 with
    |false=>rfl
    |true=>have:=v 19 _ rfl e ⟨5,.phase⟩ Zh rfl;rw[o]at this;cases this
   have l:=c.blk.cell 1;rw[E]at l;simp only[Qa,Qb]at l;rw[Qr (by simp[Region.wanted])];go_simp
   exact f _ _ Zh (c.put ZM (by simp[dI]))
  |6,d=>
   obtain rfl:=Q5 d;have h0:a.tmps.getD 0 undef= .string r:=p.at 0 Yb;rw[Qr (by simp[Region.wanted])];go_simp
   exact f _ _ Zh (c.put ZM (by simp[dI]))
  |7,d=>
   obtain rfl:=Q5 d;have af:a.tmps.getD 11 undef= .string r:=c.vals 6 (i ⟨6,.data⟩ Zh rfl)
   have B:k 8=false:=by
    cases e:k 8 with
    |false=>rfl
    |true=>have:=v 8 _ rfl e ⟨7,.data⟩ Zh rfl;rw[o]at this;cases this
   have ao:a.tmps[11]?.getD undef= .string r:=by simpa using af
   rw[Qr (by simp[Region.wanted])];go_simp
   exact f _ _ Zh (c.lit7 B ((Chg.refl _ _).alloc _) (Q8 _) (Ac.new _ _ _))
  |8,d=>
   obtain rfl:=Q5 d;have d7:=i ⟨7,.data⟩ Zh rfl;have ae:a.tmps.getD 10 undef=sk:=c.vals 5 (i ⟨5,.data⟩ Zh rfl);obtain⟨g,N,q2,O⟩:=c.keys.2.2 d7 o;have ag:a.tmps.getD 12 undef= .slice (some ⟨g,0,none⟩) 1 1:=N
   have E:k 19=false:=by
    cases e:k 19 with
    |false=>rfl
    |true=>have:=v 19 _ rfl e ⟨8,.data⟩ Zh rfl;rw[o]at this;cases this
   refine Df rfl _ _ _ rfl 9 Ho 16 underlying27 Cf rfl sk n ae (c.keys.1 o) g (.string r) ag (O.cell 0) rfl T.o.1 T.o.2 ?_;intro g2 aa w2 L I J;exact f _ _ Zh (c.app8 j.o E I L (fun x t=>by injection t with t;subst t;exact J.imp id (fun h=>Nat.le_of_eq h.symm)))
  |9,d=>
   obtain rfl:=Q5 d;have G:a.tmps.getD 2 undef= .pointer (some ⟨X,0,none⟩):=p.at 2 Yb;have l:=c.cell.cell 0;simp only[Qa]at l;rw[Qr (by simp[Region.wanted])];go_simp
   exact f _ _ Zh (c.put ZM (by simp[dI]))
  |10,d=>
   obtain rfl:=Q5 d;have aq:a.tmps.getD 14 undef= .pointer (some ⟨b,0,none⟩):=c.vals 9 (i ⟨9,.data⟩ Zh rfl);rw[Qr (by simp[Region.wanted])];go_simp
   exact f _ _ Zh (c.put ZM (by simp[dI]))
  |11,d=>
   obtain rfl:=Q5 d;have ar:a.tmps.getD 15 undef= .pointer (some ⟨b,0,none⟩):=c.vals 10 (i ⟨10,.data⟩ Zh rfl);rw[Qr (by simp[Region.wanted])];go_simp
   exact f _ _ Zh (c.put ZM (by simp[dI]))
  |12,d=>
   obtain rfl:=Q5 d;have au:a.tmps.getD 16 undef= .pointer (some ⟨b,0,none⟩):=c.vals 11 (i ⟨11,.data⟩ Zh rfl);rw[Qr (by simp[Region.wanted])];go_simp
   exact f _ _ Zh (c.put ZM (by simp[dI]))
  |13,d=>
   obtain rfl:=Q5 d;have av:a.tmps.getD 17 undef= .pointer (some ⟨b,0,none⟩):=c.vals 12 (i ⟨12,.data⟩ Zh rfl)
   have F:k 23=false:=by
    cases e:k 23 with
    |false=>rfl
    |true=>have:=v 23 _ rfl e ⟨13,.phase⟩ Zh rfl;rw[o]at this;cases this
   have l:=c.blk.cell 0;rw[F]at l;simp only[Qa]at l;rw[Qr (by simp[Region.wanted])];go_simp
   exact f _ _ Zh (c.put ZM (by simp[dI]))
  |14,d=>
   obtain rfl:=Q5 d;have h1:a.tmps.getD 1 undef= .iface s x:=p.at 1 Yb;rw[Qr (by simp[Region.wanted])];go_simp
   exact f _ _ Zh (c.put ZM (by simp[dI]))
  |15,d=>
   obtain rfl:=Q5 d;have ai:a.tmps.getD 19 undef= .iface s x:=c.vals 14 (i ⟨14,.data⟩ Zh rfl)
   have A:k 16=false:=by
    cases e:k 16 with
    |false=>rfl
    |true=>have:=v 16 _ rfl e ⟨15,.data⟩ Zh rfl;rw[o]at this;cases this
   have aw:a.tmps[19]?.getD undef= .iface s x:=by simpa using ai
   rw[Qr (by simp[Region.wanted])];go_simp
   exact f _ _ Zh (c.lit15 A ((Chg.refl _ _).alloc _) (Q8 _) (Ac.new _ _ _))
  |16,d=>
   obtain rfl:=Q5 d;have ab:=i ⟨15,.data⟩ Zh rfl;have ah:a.tmps.getD 18 undef=u:=c.vals 13 (i ⟨13,.data⟩ Zh rfl);obtain⟨g,N,q2,O⟩:=c.items.2.2 ab o;have aj:a.tmps.getD 20 undef= .slice (some ⟨g,0,none⟩) 1 1:=N
   have F:k 23=false:=by
    cases e:k 23 with
    |false=>rfl
    |true=>have:=v 23 _ rfl e ⟨16,.data⟩ Zh rfl;rw[o]at this;cases this
   refine Df rfl _ _ _ rfl 95 .nilIface 16 underlying105 Jh rfl u vs ah (c.items.1 o) g (.iface s x) aj (O.cell 0) rfl S.o.1 S.o.2 ?_;intro g2 aa w2 L I J;exact f _ _ Zh (c.app16 j.o F I L (fun x t=>by injection t with t;subst t;exact J.imp id (fun h=>Nat.le_of_eq h.symm)))
  |17,d=>
   obtain rfl:=Q5 d;have h5:a.tmps.getD 5 undef= .pointer (some ⟨b,0,none⟩):=c.vals 0 (i ⟨0,.data⟩ Zh rfl);rw[Qr (by simp[Region.wanted])];go_simp
   exact f _ _ Zh (c.put ZM (by simp[dI]))
  |18,d=>
   obtain rfl:=Q5 d;have ay:a.tmps.getD 22 undef= .pointer (some ⟨b,0,none⟩):=c.vals 17 (i ⟨17,.data⟩ Zh rfl);rw[Qr (by simp[Region.wanted])];go_simp
   exact f _ _ Zh (c.put ZM (by simp[dI]))
  |19,d=>
   obtain rfl:=Q5 d;have az:a.tmps.getD 23 undef= .pointer (some ⟨b,1,none⟩):=c.vals 18 (i ⟨18,.data⟩ Zh rfl);have am:=c.blk.lt;have ak:=c.blk.frozen 1;have z:=c.store19 j.o;have d8:=i ⟨8,.data⟩ Zh rfl;obtain⟨P,Q,q,_⟩:=(c.keys.2.1 d8).1.form;rw[show(n++[Vl.string r]).length=n.length+1 from by simp]at q;rw[q]at z;have ap:a.tmps.getD 13 undef= .slice P (n.length+1) Q:=q;have M:=c.blk.cell 1;simp only[Qa,Qb]at M;clear q;rw[Qr (by simp[Region.wanted])];go_simp
   exact f _ _ Zh z
  |20,d=>
   obtain rfl:=Q5 d;have h6:a.tmps.getD 6 undef= .pointer (some ⟨b,0,none⟩):=c.vals 1 (i ⟨1,.data⟩ Zh rfl);rw[Qr (by simp[Region.wanted])];go_simp
   exact f _ _ Zh (c.put ZM (by simp[dI]))
  |21,d=>
   obtain rfl:=Q5 d;have aA:a.tmps.getD 24 undef= .pointer (some ⟨b,0,none⟩):=c.vals 20 (i ⟨20,.data⟩ Zh rfl);rw[Qr (by simp[Region.wanted])];go_simp
   exact f _ _ Zh (c.put ZM (by simp[dI]))
  |22,d=>
   obtain rfl:=Q5 d;have aB:a.tmps.getD 25 undef= .pointer (some ⟨b,0,none⟩):=c.vals 21 (i ⟨21,.data⟩ Zh rfl);rw[Qr (by simp[Region.wanted])];go_simp
   exact f _ _ Zh (c.put ZM (by simp[dI]))
  |23,d=>
   obtain rfl:=Q5 d;have aC:a.tmps.getD 26 undef= .pointer (some ⟨b,0,none⟩):=c.vals 22 (i ⟨22,.data⟩ Zh rfl);have am:=c.blk.lt;have ak:=c.blk.frozen 0;have z:=c.store23 j.o;have ad:=i ⟨16,.data⟩ Zh rfl;obtain⟨P,Q,q,_⟩:=(c.items.2.1 ad).1.form;rw[show(vs++[Vl.iface s x]).length=vs.length+1 from by simp]at q;rw[q]at z;have ax:a.tmps.getD 21 undef= .slice P (vs.length+1) Q:=q;have M:=c.blk.cell 0;simp only[Qa]at M;clear q;rw[Qr (by simp[Region.wanted])];go_simp
   exact f _ _ Zh z
  |_+24,d=>exact absurd d Zh
 .intro a wR k p y c
  have an:dK X b u sk vs n r (.iface s x) w (.returned (.tuple #[])) wR:=by
   have B:=y 8 ZM;have A:=y 16 ZM;obtain⟨k1,k2⟩:=c.keys.2.1 B;obtain⟨i1,i2⟩:=c.items.2.1 A;have V:=c.blk;rw[y 23 ZM,y 19 ZM,Qr rfl,Qr rfl]at V;have lb:=j.o.blk.lt;have lx:=j.o.cell.lt
   have al:∀g,(bC _ a 16).ownBlock=some g->g≠b/\g≠X:=fun g m=>by
    rcases i2 g m with h|h
    .exact j.o.ni g h
    .constructor<;>omega
   have Z:∀g,(bC _ a 8).ownBlock=some g->g≠b/\g≠X:=fun g m=>by
    rcases k2 g m with h|h
    .exact⟨(j.o.nk g h).1,(j.o.nk g h).2.1⟩
    .constructor<;>omega
   exact⟨rfl,_,_,⟨c.cell,V,i1,k1,j.o.ne,al,fun g m=>⟨(Z g m).1,(Z g m).2,fun e=>c.sep B A g m e⟩⟩,(D.o.none _).trans c.chg,fun g m=>(i2 g m).imp id (fun h=>Q7 D.o.size h),fun g m=>(k2 g m).imp id (fun h=>Q7 D.o.size h)⟩
  clear c y U;have W:=p.defers;obtain⟨tm,df⟩:=a;clear p
  dsimp only at W
  subst W;go_wp2_with fail
  go_end0
  exact an
 .exact⟨Chg.refl _ _,(fun _ e=>by cases e),j.o.cell,j.o.blk,⟨fun _=>j.o.keys,(fun e=>by cases e),(fun e=>by cases e)⟩,⟨fun _=>j.o.items,(fun e=>by cases e),(fun e=>by cases e)⟩,(fun e=>by cases e)⟩
def dM(w:Wl):Prop:=∀m:Nat,m<6->w.cell? ⟨0,m,none⟩=some (.string (Ec (m+1)))
theorem dM.kept{w w':Wl}(h:dM w)(a:Chg w w' []):dM w':=fun m b=>a.keeps (h m b)
structure dQ(w0:Wl)(X b P:Nat)(TP:Ti)(C vs kl:List Vl)(w:Wl):Prop where
 ex:∃sl sk,dL w X b sl sk vs kl/\(∀g,sl.ownBlock=some g->w0.heap.size<=g/\g≠P)/\(∀g,sk.ownBlock=some g->w0.heap.size<=g/\g≠P)
 chg:Chg w0 w []
 pb:Ac w P C TP
 hb:w0.heap.size<=b
 np:P≠b
theorem dS(w0:Wl)(X b P:Nat)(TP:Ti)(C vs d:List Vl)(m:BY)(n:Ti)(x:Vl)(w:Wl)(h:dQ w0 X b P TP C vs d w)(v:vs.length<=65536)(u:d.length<=65536):
  Cl prog 88 #[.string m,.iface n x,.pointer (some ⟨X,0,none⟩)] w fun e w'=>e= .returned (.tuple #[])/\dQ w0 X b P TP C (vs++[.iface n x]) (d++[.string m]) w':=by
 obtain⟨s,sk,H,f,j⟩:=h.ex;have z:=h.pb.lt;refine(dN X b s sk vs d m n x w H ⟨Zj,Zj⟩ ⟨Zj,Zj⟩).mono fun e w' ⟨p,t,r,q,o,i,k⟩=>⟨p,⟨⟨t,r,q,fun g l=> ?_,fun g l=> ?_⟩,h.chg.fresh o (fun y a=> ?_),h.pb.kept o (fun a=> ?_),h.hb,h.np⟩⟩
 .rcases i g l with c|c
  .exact f g c
  .have:=h.chg.size;exact⟨Zj,Zj⟩
 .rcases k g l with c|c
  .exact j g c
  .have:=h.chg.size;exact⟨Zj,Zj⟩
 .simp only[Qh,Qf,Option.mem_toList]at a
  rcases a with rfl|a|a
  .exact h.hb
  .exact(f y a).1
  .exact(j y a).1
 .simp only[Qh,Qf,Option.mem_toList]at a
  rcases a with a|a|a
  .exact h.np a
  .exact(f _ a).2 rfl
  .exact(j _ a).2 rfl
def dO(s:BY):Vl:= .iface 183 (.agg #[.iface 179 (.string s)])
theorem dT(s:BY)(w:Wl):Cl prog 89 #[.string s] w fun e w'=>e= .returned (dO s)/\w=w':=by
 go_enter func89,ntmps89
 go_wp2_with fail
 go_ret
 exact⟨rfl,rfl⟩
theorem dR(w:Wl)(s:BY):AP w (.text s) (dO s) []:=by simp only[AP];exact⟨rfl,trivial⟩
theorem dV{w:Wl}{s:BY}{l:List Tr}{r:List Vl}{a:List Nat}(h:PsAt w l r a):PsAt w (.text s::l) (dO s::r) a:=⟨_,_,[],a,rfl,dR w s,h,rfl⟩
theorem dQ.kept{w0 w w':Wl}{X b P:Nat}{TP:Ti}{C vs c:List Vl}(h:dQ w0 X b P TP C vs c w)(a:Chg w w' []):dQ w0 X b P TP C vs c w':=by
 obtain⟨f,sk,H,d,e⟩:=h.ex;exact⟨⟨f,sk,⟨H.cell.kept a,H.blk.kept a,H.items.kept a,H.keys.kept a,H.ne,H.ni,H.nk⟩,d,e⟩,h.chg.trans a,h.pb.kept a,h.hb,h.np⟩
theorem dQ.facts{w0 w:Wl}{X b P m:Nat}{vs c:List Vl}{k:Int}{p f:BY}{d e g v u:Vl}(h:dQ w0 X b P 111 [.int .i64 k,.string p,.string f,d,e,g,v] vs c w)(a:w0.cell? ⟨0,m,none⟩=some u):
  w.cell? ⟨P,0,none⟩=some (.int .i64 k)/\w.cell? ⟨P,1,none⟩=some (.string p)/\w.cell? ⟨P,2,none⟩=some (.string f)/\w.cell? ⟨P,6,none⟩=some v/\w.cell? ⟨X,0,none⟩=some (.pointer (some ⟨b,0,none⟩))/\w.cell? ⟨0,m,none⟩=some u:=by
 obtain⟨i,sk,H,_,_⟩:=h.ex;exact⟨h.pb.cell 0,h.pb.cell 1,h.pb.cell 2,h.pb.cell 6,H.cell.cell 0,h.chg.keeps a⟩
theorem dU{w0 w:Wl}{X b P:Nat}{TP:Ti}{C vs:List Vl}{ks:List BY}{l:List Tr}{c:List Nat}(h:dQ w0 X b P TP C vs (Ad ks) w)(f:ks.length=l.length)(g:PsAt w l vs c):
  ∃bs,AP w (.obj ks l) (.iface 175 (.pointer (some ⟨b,0,none⟩))) bs/\∀y,y∈bs->w0.heap.size<=y\/y∈c:=by
 obtain⟨i,sk,H,d,e⟩:=h.ex;refine⟨_,⟨b,i,sk,vs,c,rfl,H.blk,H.items,H.keys,f,g,rfl⟩,fun y a=> ?_⟩;simp only[Qh,Qf,Option.mem_toList]at a
 rcases a with rfl|a|a|a
 .exact .inl h.hb
 .exact .inl (d y a).1
 .exact .inl (e y a).1
 .exact .inr a
def dP(k:Int)(p f:BY)(x:Tr)(a:List Nat)(w:Wl)(e:Ending)(w':Wl):Prop:=
 ∃v bs,e= .returned v/\AP w' (Ze k.toNat p f x) v bs/\(∀y,y∈bs->w.heap.size<=y\/y∈a)/\Chg w w' []
theorem dX{m:Nat}(h:true=AO ((m:Int)+1)):m+1=4\/m+1=5:=by unfold AO at h;simp at h;omega
theorem dY{m:Nat}(h:true=AN ((m:Int)+1)):m+1=1\/m+1=3\/m+1=6:=by unfold AN at h;simp at h;omega
theorem dW{m:Nat}(h:false=AO ((m:Int)+1)):¬(m+1=4\/m+1=5):=by unfold AO at h;simp at h;omega
theorem dZ{m:Nat}(h:false=AN ((m:Int)+1)):¬(m+1=1\/m+1=3\/m+1=6):=by unfold AN at h;simp at h;omega
def eD(k:Int)(p f:BY)(sv slp a b:Vl):List Vl:=[.int .i64 k,.string p,.string f,sv,slp,a,b]
theorem ee(m:Nat)(p f:BY)(x:Tr)(C D E q:Vl)(d:List Nat)(w:Wl)(Z:m<6)(S:dM w)(U:AN ((m:Int)+1)=true->AP w x q d/\∀y,y∈d->y<w.heap.size):
  Cl prog 51 #[.agg (eD ((m:Int)+1) p f C D E q).toArray] w (dP ((m:Int)+1) p f x d w):=by
 have ag:∀(R:Fn) (first K:Array Vl) (w:Wl),(Instr.makeFunc R first K).run prog w= .ok (.func R first K) w:=fun _ _ _ _=>rfl
 have o:=S m Z;have X:=hZ U;have ad:(0:Int)<=(m:Int):=Zj
 have af:(m:Int)<6:=Zj
 have ae:(m:Int)+1-1=(m:Int):=Zj
 obtain⟨uf,u⟩:=Ue (AO ((m:Int)+1))
 obtain⟨uv,v⟩:=Ue (AN ((m:Int)+1))
 have k:=hZ u;have n:=hZ v;have I:=hZ (fun w=>Jm ((m:Int)+1) w);rw[<-u,<-v]at I;obtain⟨V,z⟩:=Ue (((w.alloc (.cells #[.int .i64 ((m:Int)+1),.string p,.string f,C,D,E,q] 111)).alloc (.cells #[.slice none 0 0,.slice none 0 0] 177)).alloc (.cells #[.pointer (some ⟨w.heap.size+1,0,none⟩)] 175))
 have J:=hZ z
 have T:dQ w (w.heap.size+1+1) (w.heap.size+1) w.heap.size 111 [.int .i64 ((m:Int)+1),.string p,.string f,C,D,E,q] [] [] V:=by
  rw[z];refine⟨⟨.slice none 0 0,.slice none 0 0,⟨BD _ _ _ _ _ rfl Zh,(BD _ _ _ _ _ rfl Zh).alloc _,World.ownsRow_nil _ 0 _ 1,World.ownsRow_nil _ 0 _ 1,Zj,(fun g c=>by cases c),(fun g c=>by cases c)⟩,(fun g c=>by cases c),(fun g c=>by cases c)⟩,(((Chg.refl w []).alloc _).alloc _).alloc _,((Ac.new w _ _).alloc _).alloc _,Zj,Zj⟩
 have H:=hZ T;clear S U u v z T;go_enter func51,ntmps51
 unfold eD;go_wp2_with fail
 rw[<-J.o];refine(I.o V).mono ?_;rintro e w1 ⟨rfl,t⟩;have a:=hZ (H.o.kept t);obtain⟨c0,c1,c2,c3,c4,c5⟩:=a.o.facts o;clear t H J;have s:((m:Int)+1).toNat=m+1:=Zj
 cases uf<;>cases uv
 .go_wp2_with(first
 |(go_at_call 89;refine(dT _ _).mono ?_;rintro e W ⟨rfl,rfl⟩;unfold dO)
 |(go_at_call 88;refine(dS w _ _ _ _ _ _ _ _ _ _ _ a.o Zh Zh).mono ?_;rintro e r ⟨rfl,b⟩;obtain⟨L,M,N,O,P,Q⟩:=b.facts o;clear a;have a:=hZ b;clear b))
  go_ret
  obtain⟨bs,i,j⟩:=dU (ks:=[SB,Fj]) (l:=[.text (Ec (m+1)),.text p]) (vs:=[dO (Ec (m+1)),dO p]) a.o rfl (dV (dV ⟨rfl,rfl⟩));refine⟨_,bs,rfl, ?_,fun y B=>(j y B).imp id (fun h=>by cases h),a.o.chg⟩;rw[s];unfold Ze;rw[Qs (dW k.o),Qs (dZ n.o)];exact i
 .obtain⟨A,aa⟩:=X.o n.o.symm
  obtain⟨F,G,rfl⟩:=A.iface;have Y:=hZ A;clear A aa
  go_wp2_with(first
 |(go_at_call 89;refine(dT _ _).mono ?_;rintro e W ⟨rfl,rfl⟩;unfold dO)
 |(go_at_call 88;refine(dS w _ _ _ _ _ _ _ _ _ _ _ a.o Zh Zh).mono ?_;rintro e r ⟨rfl,b⟩;obtain⟨L,M,N,O,P,Q⟩:=b.facts o;clear a;have a:=hZ b;clear b))
  go_ret
  have ab:AP r x (.iface F G) d:=Y.o.chg a.o.chg Zh;obtain⟨bs,i,j⟩:=dU (ks:=[SB,Fj,SZ]) (l:=[.text (Ec (m+1)),.text p,x]) (vs:=[dO (Ec (m+1)),dO p,.iface F G]) a.o rfl (show PsAt r [.text (Ec (m+1)),.text p,x] [dO (Ec (m+1)),dO p,.iface F G] d from dV (dV ⟨_,[],d,[],rfl,ab,⟨rfl,rfl⟩,Zh⟩));refine⟨_,bs,rfl, ?_,j,a.o.chg⟩;rw[s];unfold Ze;rw[Qs (dW k.o),Qr (dY n.o)];exact i
 .go_wp2_with(first
 |(go_at_call 89;refine(dT _ _).mono ?_;rintro e W ⟨rfl,rfl⟩;unfold dO)
 |(go_at_call 88;refine(dS w _ _ _ _ _ _ _ _ _ _ _ a.o Zh Zh).mono ?_;rintro e r ⟨rfl,b⟩;obtain⟨L,M,N,O,P,Q⟩:=b.facts o;clear a;have a:=hZ b;clear b))
  go_ret
  obtain⟨bs,i,j⟩:=dU (ks:=[Oa,SB,Fj]) (l:=[.text f,.text (Ec (m+1)),.text p]) (vs:=[dO f,dO (Ec (m+1)),dO p]) a.o rfl (dV (dV (dV ⟨rfl,rfl⟩)));refine⟨_,bs,rfl, ?_,fun y B=>(j y B).imp id (fun h=>by cases h),a.o.chg⟩;rw[s];unfold Ze;rw[Qr (dX k.o)];exact i
 .exfalso
  have t:=dX k.o;have h2:=dY n.o;omega
end
section
open Go Go.RowKit Tree Ptr
structure fN(r:CW):Prop where
 path:r.path.size<=16777216
 frm:r.frm.size<=16777216
 steps:r.steps=[]\/∃u,Bt u/\r.steps=Ai u
theorem fN.ops{r:CW}(h:fN r):T7 r.toI:=by
 rcases h.steps with e|⟨u,b,e⟩
 .exact⟨h.path,h.frm,(fun s a=>by unfold CW.toI at a;rw[e]at a;cases a),by show(r.steps.map Aw.toI).length<=_;rw[e];decide⟩
 .refine⟨h.path,h.frm,fun s a=> ?_, ?_⟩
  .unfold CW.toI at a;rw[e]at a;exact KI b s a
  .show(r.steps.map Aw.toI).length<=_
   rw[e];have c:=Ju u;have d:=(Ar b.fits).1;unfold MW at c;omega
end
section
open _root_.Go.Proofs.Tryz
open Go Go.Shelf Go.RowKit Go.Lib Tree Ptr
structure ei(N B L9 lb:Nat)(sl:Vl)(l:List Tr)(vs:List Vl)(fs:List Nat)(w:Wl):Prop where
 cn:Ac w N [.int .i64 (Ag (.list l)).nodes] 3
 cb:Ac w B [.int .i64 (Ag (.list l)).bytes] 3
 cl:Ac w L9 [.pointer (some ⟨lb,0,none⟩)] 104
 bl:Ac w lb [sl] 107
 row:AK w sl 95 vs
 at_:PsAt w l vs fs
 nd:[N,B,L9,lb].Nodup
 own:∀g,sl.ownBlock=some g->g∉[N,B,L9,lb]
 sep:∀y,y∈fs->y<w.heap.size/\y∉[N,B,L9,lb]/\sl.ownBlock≠some y
def eb(o:Bq)(N B f b:Nat)(c:Vl)(l:List Tr)(h:List Nat)(w:Wl)(e:Ending)(w':Wl):Prop:=
 (if Bn o≠0 then e=By (Bn o)else if(Ag (.list (l++[OK o]))).within=true then
  e= .returned (.tuple #[])/\∃d i a,ei N B f b d (l++[OK o]) i a w'/\(∀g,d.ownBlock=some g->c.ownBlock=some g\/w.heap.size<=g)/\(∀y,y∈a->y∈h\/w.heap.size<=y)
 else e=By 3)/\Chg w w' (N::B::b::c.ownBlock.toList)
theorem ec(l:List Tr)(t:Tr):(Ag (.list (l++[t]))).nodes=(Ag (.list l)).nodes+(Ag t).nodes/\(Ag (.list (l++[t]))).bytes=(Ag (.list l)).bytes+(Ag t).bytes/\(Ag (.list (l++[t]))).depth=max (Ag (.list l)).depth ((Ag t).depth+1):=by
 simp only[Ag,G4,Bk,Sz.add,Sz.over];omega
theorem ed{l:List Tr}{t:Tr}(d:(Ag (.list l)).within=true):
  (Ag (.list (l++[t]))).within=(decide ((Ag (.list l)).nodes+(Ag t).nodes<=65536)&&decide ((Ag (.list l)).bytes+(Ag t).bytes<=2097152)&&decide ((Ag t).depth<512)):=by
 obtain⟨a,b,c⟩:=ec l t;have e:=(Ar d).2.2;unfold Sz.within;rw[a,b,c]
 congr 1
 rw[decide_eq_decide];omega
theorem ev(o:Bq)(sv:Vl)(ys:List Vl)(X N B b n:Nat)(p:Vl)(l:List Tr)(d:List Nat)(w:Wl)(f:Br w)(g:T7 o)(i:As w sv 6 o.steps.length ys)(j:Az w o.steps ys)(k:Ac w X (BJ o sv) 42)(c:Bn o≠0):
  Cl prog 50 #[.pointer (some ⟨X,0,none⟩),.pointer (some ⟨N,0,none⟩),.pointer (some ⟨B,0,none⟩),.pointer (some ⟨b,0,none⟩)] w (eb o N B b n p l d w):=by
 have a:=Xu o sv ys w f g i j;rw[Co.no rfl c]at a;have s:=hZ a;have t:=hZ k
 have r:=UD (∀w',Chg w w' []->eb o N B b n p l d w (By (Bn o)) w') fun w' u=>by
  unfold eb;rw[Qr c];exact⟨rfl,u.none _⟩
 clear a f g i j k c;go_enter func50,ntmps50
 go_wp2_with(first
  |(refine Bp rfl _ _ rfl X ZN 42 (BJ o sv) (by exact t.o) _ underlying42 rfl A0 ?_)
  |(go_at_call 52;refine s.o.mono ?_;rintro e w2 ⟨m,h⟩;have q:=hZ h;unfold By at m;subst m;clear h))
 exact⟨rfl,r.o _ q.o⟩
theorem ej{s:BY}{ts:List BY}(h:AD s=some ts):Utf.Al s=true:=by
 unfold AD at h;split at h
 .rename_i a;exact a.1
 .cases h
theorem ek{s:BY}(h:Utf.Al s=true)(a:s.size<=2097152):Av (.text s)/\(Ag (.text s)).within=true:=⟨⟨h,a⟩,by unfold Ag Sz.within;simp;omega⟩
theorem el{k:Nat}(h:1<=k/\k<=6):Av (.text (Ec k))/\(Ag (.text (Ec k))).within=true:=by
 have:k=1\/k=2\/k=3\/k=4\/k=5\/k=6:=Zj
 rcases this with rfl|rfl|rfl|rfl|rfl|rfl<;>exact ek Yb ZM
theorem eo{o:Bq}(f:Bn o=0)(n:o.path.size<=2097152)(m:o.frm.size<=2097152)(l:∀s∈o.steps,Di s):∀u∈Ab (OK o),Av u/\(Ag u).within=true:=by
 obtain⟨q,⟨ts,g⟩,h,i⟩:=EK f;have d:=el (k:=o.kind.toNat) Zj;have c:=ek (ej g) n;intro u a;unfold OK Ze at a;split at a
 .rename_i j
  obtain⟨p,b⟩:=h (by unfold AO;simp;omega);simp only[Ab,Qh,List.not_mem_nil,or_false]at a
  rcases a with rfl|rfl|rfl
  .exact ek (ej b) m
  .exact d
  .exact c
 .split at a
  .rename_i j
   obtain⟨x,b⟩:=i (by unfold AN;simp;omega);have e:=FD l b;rw[b,Option.getD_some]at a;simp only[Ab,Qh,List.not_mem_nil,or_false]at a
   rcases a with rfl|rfl|rfl
   .exact d
   .exact c
   .exact⟨e.good,e.fits⟩
  .simp only[Ab,Qh,List.not_mem_nil,or_false]at a
   rcases a with rfl|rfl
   .exact d
   .exact c
theorem eu{o:Bq}{x:Tr}(h:AN o.kind=true->AS o.steps=some x)(c:1<=o.kind):OK o=Ze o.kind.toNat o.path o.frm x:=by
 unfold OK;by_cases b:AN o.kind=true
 .rw[h b];rfl
 .have a:¬(o.kind.toNat=1\/o.kind.toNat=3\/o.kind.toNat=6):=fun e=>b (by unfold AN;simp;omega)
  unfold Ze;rw[Qs a,Qs a]
theorem en{o:Bq}(a:∀u∈Ab (OK o),Av u/\(Ag u).within=true):(Ag (OK o)).nodes<=200000/\(Ag (OK o)).bytes<=7000000/\(Ag (OK o)).depth<=513:=by
 obtain⟨ks,l,e,f,g,h⟩:=ea o.kind.toNat o.path o.frm ((AS o.steps).getD .null);have b:OK o= .obj ks l:=e;rw[b]at a|-;have c:=KW (l:=l) (fun u d=>(a u d).2) l.length;rw[List.take_length]at c;simp only[Ag,Sz.over];omega
end
section
open Go Go.RowKit Tree Ptr
theorem eH:Cy [Oa,SB,Fj]/\Cy [SB,Fj,SZ]/\Cy [SB,Fj]:=by
 have b:∀s:BY,s∈[Oa,SB,Fj,SZ]->Utf.Al s=true/\s.size<=2147483648:=by
  intro s a;simp only[Qh,List.not_mem_nil,or_false]at a
  rcases a with rfl|rfl|rfl|rfl<;>exact⟨Yb,ZM⟩
 have f:Utf.BK Oa SB<0:=by decide+kernel
 have g:Utf.BK Oa Fj<0:=by decide+kernel
 have i:Utf.BK SB Fj<0:=by decide+kernel
 have j:Utf.BK SB SZ<0:=by decide+kernel
 have k:Utf.BK Fj SZ<0:=by decide+kernel
 have d:∀s,s∈[Oa,SB,Fj]->s∈[Oa,SB,Fj,SZ]:=fun s h=>Qe [SZ] h
 have c:∀s,s∈[SB,Fj,SZ]->s∈[Oa,SB,Fj,SZ]:=fun s h=>Qg _ h
 have e:∀s,s∈[SB,Fj]->s∈[Oa,SB,Fj,SZ]:=fun s h=>c s (Qe [SZ] h)
 refine⟨⟨fun s a=>(b s (d s a)).1,fun s a=>(b s (d s a)).2, ?_, ?_⟩,⟨fun s a=>(b s (c s a)).1,fun s a=>(b s (c s a)).2, ?_, ?_⟩,⟨fun s a=>(b s (e s a)).1,fun s a=>(b s (e s a)).2, ?_, ?_⟩⟩
 all_goals first
  |(simp only[Qj,List.length_nil];omega)
  |(simp only[List.pairwise_cons,Qh,List.not_mem_nil,or_false,forall_eq_or_imp,forall_eq,List.Pairwise.nil,and_true,false_imp_iff,implies_true];simp only[f,g,i,j,k,and_self])
theorem eI{o:Bq}(a:∀u∈Ab (OK o),Av u/\(Ag u).within=true):Av (OK o):=by
 obtain⟨b,c,d⟩:=eH;unfold OK Ze at a|-;split at a
 .rw[Qr (by assumption)]
  simp only[Ab,Qh,List.not_mem_nil,or_false,forall_eq_or_imp,forall_eq]at a;exact⟨b,rfl,a.1.1,a.2.1.1,a.2.2.1,trivial⟩
 .rw[Qs (by assumption)]
  split at a
  .rw[Qr (by assumption)]
   simp only[Ab,Qh,List.not_mem_nil,or_false,forall_eq_or_imp,forall_eq]at a;exact⟨c,rfl,a.1.1,a.2.1.1,a.2.2.1,trivial⟩
  .rw[Qs (by assumption)]
   simp only[Ab,Qh,List.not_mem_nil,or_false,forall_eq_or_imp,forall_eq]at a;exact⟨d,rfl,a.1.1,a.2.1,trivial⟩
theorem eJ{l:List Bq}(b:∀o∈l,Bn o=0)(f:∀o∈l,T7 o/\o.path.size<=2097152/\o.frm.size<=2097152)(h:(Ag (.list (l.map OK))).within=true):Bt (.list (l.map OK)):=by
 refine⟨?_,h⟩;refine Cu.2 fun t g=> ?_
 obtain⟨o,a,rfl⟩:=List.mem_map.1 g;obtain⟨c,d,e⟩:=f o a;exact eI (eo (b o a) d e c.steps)
end
section
open _root_.Go.Proofs.Tryz
open Go Go.Shelf Go.RowKit Go.Lib Tree Ptr
theorem ew{w o u x z k:Wl}{N B m d g p:Nat}{j:Vl}{l:List Tr}{T:Tr}{v:Vl}{vs:List Vl}{C bs:List Nat}(h:ei N B m d j l vs C w)(q:Chg w o [])(n:Chg o u [])(D:Chg u x [N,B])(E:Chg x z j.ownBlock.toList)(s:Chg z k [d])(R:Ac k N [.int .i64 (Ag (.list (l++[T]))).nodes] 3)(O:Ac k B [.int .i64 (Ag (.list (l++[T]))).bytes] 3)(V:Ac k d [.slice (some ⟨g,0,none⟩) (vs.length+1) p] 107)(X:AK z (.slice (some ⟨g,0,none⟩) (vs.length+1) p) 95 (vs++[v]))(c:j.ownBlock=some g\/x.heap.size<=g)(K:AP o T v bs)(F:∀y,y∈bs->w.heap.size<=y):ei N B m d (.slice (some ⟨g,0,none⟩) (vs.length+1) p) (l++[T]) (vs++[v]) (C++bs) k:=by
 have lN:=h.cn.lt;have lB:=h.cb.lt;have lL:=h.cl.lt;have ll:=h.bl.lt;have z3:=q.size;have z4:=n.size;have z6:=D.size;have z7:=E.size;have z8:=s.size;have t:∀y,y∈[N,B,m,d]->y<w.heap.size:=fun y b=>by simp at b;omega
 have J:∀y,j.ownBlock=some y->y<w.heap.size:=fun y b=>h.row.lt b
 have G:∀y,y∈[N,B,m,d]->y≠g:=fun y b e=>by
  subst e
  rcases c with c|c
  .exact h.own _ c b
  .have:=t _ b;omega
 have W:=h.nd;have I:=h.nd;simp only[List.nodup_cons,Qh,List.not_mem_nil,or_false,not_or,not_false_eq_true,List.nodup_nil,and_true]at I;obtain⟨⟨Z,S,aa⟩,⟨P,Y⟩,Q⟩:=I;have U:∀y,y∈bs->y<o.heap.size:=AP.lt _ _ _ K
 have r:Chg u k (N::B::d::j.ownBlock.toList):=((D.mono (fun _ _ a=>by simp at a|-;omega)).trans (E.mono (fun _ _ a=>by simp at a|-;simp[a]))).trans (s.mono (fun _ _ a=>by simp at a|-;simp[a]))
 have H:∀y,y∈N::B::d::j.ownBlock.toList->y∈[N,B,m,d]\/j.ownBlock=some y:=fun y b=>by
  simp only[Qh,Option.mem_toList]at b
  rcases b with rfl|rfl|rfl|b
  .simp
  .simp
  .simp
  .exact .inr b
 refine⟨R,O,((h.cl.kept (q.trans n)).kept r (fun a=> ?_)),V,X.kept s (fun y b a=> ?_), ?_,W,fun y b a=> ?_,fun y b=> ?_⟩
 .simp only[Qh,Option.mem_toList]at a
  rcases a with a|a|a|a
  .exact S a.symm
  .exact P a.symm
  .exact Q a
  .exact h.own _ a Zh
 .simp at a;subst a
  have e:g=y:=by injection b
  exact G y Zh e.symm
 .refine PsAt.snoc ((h.at_.chg (q.trans n) Zh).chg r (fun y b a=> ?_)) ((K.chg n Zh).chg r (fun y b a=> ?_))
  .have f:=h.sep y a
   rcases H y b with i|i
   .exact f.2.1 i
   .exact f.2.2 i
  .have f:=F y a
   rcases H y b with i|i
   .have:=t y i;omega
   .have:=J y i;omega
 .have e:g=y:=by injection b
  exact G y a e.symm
 .rcases Qf.1 b with f|f
  .obtain⟨L,A,M⟩:=h.sep y f
   refine⟨Zj,A,fun e=> ?_⟩;have e:g=y:=by injection e
   subst e
   rcases c with c|c
   .exact M c
   .omega
  .have L:=F y f
   have A:=U y f;refine⟨Zj,fun a=>by have:=t y a;omega,fun e=> ?_⟩;have e:g=y:=by injection e
   subst e
   rcases c with c|c
   .have:=J _ c;omega
   .omega
theorem ey(o:Bq)(sv:Vl)(ys:List Vl)(X N B D d:Nat)(sl:Vl)(l:List Tr)(vs:List Vl)(fs:List Nat)(w:Wl)(hL:Br w)(aJ:dM w)(hO:T7 o)(hp:o.path.size<=2097152)(hf:o.frm.size<=2097152)(hR:As w sv 6 o.steps.length ys)(hS:Az w o.steps ys)(hX:Ac w X (BJ o sv) 42)(E:Bn o=0)(h:ei N B D d sl l vs fs w)(hw:(Ag (.list l)).within=true)(hl:l.length<=65536):
  Cl prog 50 #[.pointer (some ⟨X,0,none⟩),.pointer (some ⟨N,0,none⟩),.pointer (some ⟨B,0,none⟩),.pointer (some ⟨D,0,none⟩)] w (eb o N B D d sl l fs w):=by
 obtain⟨s,u,rfl,_⟩:=h.row.form;have a3:=hZ h.at_.length;have HR:=Xu o sv ys w hL hO hR hS;have hk:=(EK E).1;obtain⟨m,a⟩:∃m:Nat,o.kind=(m:Int)+1:=⟨o.kind.toNat-1,Zj⟩
 have a9:m<6:=Zj
 have ag:=eo E hp hf hO.steps;have Y:=en ag;have ai:=ed (t:=OK o) hw;have ah:=ec l (OK o);have aj:=Ar hw;have eR:Co o sv w=fun e w'=>∃aP aC x,I8 o aP aC x sv w e w'/\(AN o.kind=true->AS o.steps=some x):=by funext e w';unfold Co;rw[Qs (by simp[E])]
 rw[eR]at HR;have a2:=hZ HR;have HX:=hZ hX;have b:=hZ h;have a4:=hZ aJ;have aw:=UD (∀wx v bs,AP wx (OK o) v bs->JB v (Ag (OK o)) wx) fun wx v bs r=>eh ag r
 have A:=hZ a;have Q:=hZ E;obtain⟨T,G⟩:=Ue (OK o)
 have C:=hZ G;rw[<-G]at Y aw;obtain⟨O,J⟩:=Ue ((Ag T).nodes)
 obtain⟨M,I⟩:=Ue ((Ag T).bytes)
 obtain⟨td,Z⟩:=Ue ((Ag T).depth)
 obtain⟨L,H⟩:=Ue ((Ag (.list l)).nodes)
 obtain⟨K,j⟩:=Ue ((Ag (.list l)).bytes)
 have ae:=hZ (And.intro J (And.intro I Z));have au:=hZ (And.intro H j);rw[<-G,<-J,<-I,<-Z,<-H,<-j]at ai;rw[<-G,<-J,<-I,<-H,<-j]at ah;have V:=hZ ai;have ax:=hZ ah;rw[<-J,<-I,<-Z]at Y;rw[<-H,<-j]at aj;have bv:IntKind.i64.wrap ((L:Int)+(O:Int))=(L:Int)+(O:Int):=IntWalk.i64_in _ ⟨Zj,Zj⟩;have bw:IntKind.i64.wrap ((K:Int)+(M:Int))=(K:Int)+(M:Int):=IntWalk.i64_in _ ⟨Zj,Zj⟩;have bf:=hZ Y;have bg:=hZ aj;have aU:=hZ hl;clear HR eR hL hO hR hS hX E h hw hl ag Y ai ah aj aJ hp hf hk a G J I Z H j;go_enter func50,ntmps50
 go_upto_region 2 with(first
  |(refine Bp rfl _ _ rfl X ZN 42 (BJ o sv) (by exact HX.o) _ underlying42 rfl A0 ?_)
  |(go_at_call 52;refine a2.o.mono ?_;rintro e w2 ⟨aP,aC,x,⟨slp,be,vx,bx,F,F2,rfl,aO,j,_,_,_,aL,ba⟩,aK⟩;have av:=hZ aO;have ar:=hZ j;have R:=hZ aL;have aT:=hZ aK;rw[A.o];clear aO j aL aK ba)
  |(go_at_call 51;go_loud(refine(ee m o.path o.frm x sv slp be vx bx w2 a9 (a4.o.kept R.o) (fun hu=>⟨(av.o.val (by rw[A.o];exact hu)).1,AP.lt _ _ _ (av.o.val (by rw[A.o];exact hu)).1⟩)).mono ?_;rintro e w3 ⟨v,bs,rfl,q1,q2,h3⟩;have r:AP w3 T v bs:=(by rw[C.o,eu aT.o (by rw[A.o];omega),A.o];exact q1);obtain⟨ti,xi,rfl⟩:=r.iface;have Q1:=hZ r;have Q2:=hZ q2;have H3:=hZ (R.o.trans h3);obtain⟨sf,bd,bc,bb⟩:=aw.o w3 _ bs r;clear q1 q2 h3 r))
  |(refine Am rfl _ _ _ rfl _ rfl sf bd bc _ bb ?_;rintro e w4 ⟨rfl,h4⟩;refine⟨_,rfl, ?_⟩;have aQ:=hZ h4;have k:=hZ (H3.o.trans h4);unfold Jv;clear h4))
 rw[<-ae.o.1,<-ae.o.2.1,<-ae.o.2.2];have aN:=b.o.nd;simp only[List.nodup_cons,Qh,List.not_mem_nil,or_false,not_or,not_false_eq_true,List.nodup_nil,and_true]at aN;obtain⟨⟨aH,a7,aI⟩,⟨a6,aD⟩,bp⟩:=aN;have W:=b.o.cn.kept k.o;have af:=b.o.cb.kept k.o;rw[<-au.o.1]at W;rw[<-au.o.2]at af;have aR:=hZ af;have aY:=hZ W;obtain⟨lN,fN,cN⟩:=Ac.cells1 W;clear W af
 go_upto_region 3 with fail
 obtain⟨P,aa⟩:=Ue (w4.setCell ⟨N,0,none⟩ (.int .i64 ((L:Int)+(O:Int))))
 have ak:Hid (Chg w4 P [N]):=by rw[aa];exact hZ ((Chg.refl w4 [N]).setCell _ _ Zh)
 have aZ:Hid (Ac P N [.int .i64 ((L:Int)+(O:Int))] 3):=by rw[aa];exact hZ (aY.o.set 0 _)
 have am:=hZ (aR.o.kept ak.o (by simp;exact fun e=>aH e.symm));rw[<-aa];clear aa lN fN cN;obtain⟨lB,fB,cB⟩:=Ac.cells1 am.o
 go_upto_region 4 with fail
 obtain⟨n,ab⟩:=Ue (P.setCell ⟨B,0,none⟩ (.int .i64 ((K:Int)+(M:Int))))
 have al:Hid (Chg P n [B]):=by rw[ab];exact hZ ((Chg.refl P [B]).setCell _ _ Zh)
 have aS:Hid (Ac n B [.int .i64 ((K:Int)+(M:Int))] 3):=by rw[ab];exact hZ (am.o.set 0 _)
 have a0:=hZ (aZ.o.kept al.o (by simp;exact aH));have p:=UD (Chg w4 n [N,B]) ((ak.o.mono (fun _ _ h=>by simp at h;simp[h])).trans (al.o.mono (fun _ _ h=>by simp at h;simp[h])));have ap:=hZ ((b.o.cl.kept k.o).kept p.o (by simp;exact⟨fun e=>a7 e.symm,fun e=>a6 e.symm⟩));have az:=hZ ((b.o.bl.kept k.o).kept p.o (by simp;exact⟨fun e=>aI e.symm,fun e=>aD e.symm⟩));have a1:=hZ ((b.o.row.kept k.o).kept p.o (fun g hg a=>b.o.own g hg (by simp at a;simp;omega)));rw[<-ab];clear ab lB fB cB;obtain⟨lL,fL,cL⟩:=Ac.cells1 ap.o;obtain⟨ll,fl,cl⟩:=Ac.cells1 az.o;have aM:d∉(Vl.slice s vs.length u).ownBlock.toList:=fun a=>b.o.own d (by simpa using a) Zh
 have aW:=hZ aM;have aX:=UD (D∉(Vl.slice s vs.length u).ownBlock.toList) fun a=>b.o.own D (by simpa using a) Zh
 have ay:=UD (vs.length<=65536) (by have:=aU.o;have:=a3.o;omega);clear aM;go_region_law(go_loud(refine Df rfl _ _ _ rfl 95 .nilIface 16 underlying105 Jh rfl (.slice s vs.length u) vs ZN (by exact a1.o.kept (bs:=[]) (by exact cg cR) Zh) n.heap.size (.iface ti xi) ZN (by exact Bx rfl _ _) rfl (by have:=ay.o;omega) (by have:=ay.o;omega) ?_;intro g aB w7 aG aE aF;have aV:=hZ aG;have q:=UD (Chg n w7 (Vl.slice s vs.length u).ownBlock.toList) (ct ((Chg.refl n []).none _) aE);have ao:=UD ((Vl.slice s vs.length u).ownBlock=some g\/n.heap.size<=g) (aF.imp id (fun h=>by rw[h];simp));have aA:=hZ (az.o.kept q.o aW.o);obtain⟨bu,bo,bk⟩:=Ac.cells1 aA.o;obtain⟨br,bm,bi⟩:=Ac.cells1 (ap.o.kept q.o aX.o);clear aG aE aF))
 all_goals
  obtain⟨w8,ad⟩:=Ue (w7.setCell ⟨d,0,none⟩ (.slice (some ⟨g,0,none⟩) (vs.length+1) aB))
  have S:Hid (Chg w7 w8 [d]):=by rw[ad];exact hZ ((Chg.refl w7 [d]).setCell _ _ Zh)
  have a5:Hid (Ac w8 d [.slice (some ⟨g,0,none⟩) (vs.length+1) aB] 107):=by rw[ad];exact hZ (aA.o.set 0 _)
  have aq:=hZ ((a0.o.kept q.o (fun a=>b.o.own N (by simpa using a) Zh)).kept S.o (by simp;exact aI));have an:=hZ ((aS.o.kept q.o (fun a=>b.o.own B (by simpa using a) Zh)).kept S.o (by simp;exact aD));have U:=UD (Chg w w8 (N::B::d::(Vl.slice s vs.length u).ownBlock.toList)) ((((k.o.none _).trans (p.o.mono (fun _ _ a=>by simp at a|-;omega))).trans (q.o.mono (fun _ _ a=>by simp at a|-;simp[a]))).trans (S.o.mono (fun _ _ a=>by simp at a|-;simp[a])));rw[<-ad];clear ad;obtain⟨bt,bn,bj⟩:=Ac.cells1 aq.o;obtain⟨bq,bl,bh⟩:=Ac.cells1 an.o;by_cases q1:(L:Int)+(O:Int)<=65536
  .by_cases q2:(K:Int)+(M:Int)<=2097152
   .by_cases q3:(td:Int)<512
    .go_wp2_with(go_at_call 53;refine(Bv _ _).mono ?_;rintro e w9 ⟨rfl,rfl⟩)
     go_end0
     unfold eb;rw[Qs (by simp[Q.o]),<-C.o,V.o,Qr (by simp;omega)];refine⟨⟨rfl,_,vs++[.iface ti xi],fs++bs,ew b.o H3.o aQ.o p.o q.o S.o (by rw[ax.o.1,Int.natCast_add];exact aq.o) (by rw[ax.o.2.1,Int.natCast_add];exact an.o) a5.o aV.o ao.o Q1.o (fun y hy=> ?_),fun g2 a8=> ?_,fun y hy=> ?_⟩,U.o⟩
     .rcases Q2.o y hy with c|c
      .exact Q7 R.o.size c
      .exact ar.o.ge y c
     .have e:g=g2:=by injection a8
      subst e;exact ao.o.imp id (fun c=>Q7 (Q7 k.o.size p.o.size) c)
     .refine(Qf.1 hy).imp id fun c=> ?_
      rcases Q2.o y c with c|c
      .exact Q7 R.o.size c
      .exact ar.o.ge y c
    .skip
     go_wp2_with(go_at_call 53;refine(Bu _ _).mono ?_;rintro e w9 ⟨i,f⟩;unfold By at i;subst i;have z:=hZ f;clear f)
     refine⟨rfl, ?_⟩;unfold eb;rw[Qs (by simp[Q.o]),<-C.o,V.o,Qs (by simp;omega)];exact⟨rfl,U.o.trans (z.o.none _)⟩
   .skip
    go_wp2_with(go_at_call 53;refine(Bu _ _).mono ?_;rintro e w9 ⟨i,f⟩;unfold By at i;subst i;have z:=hZ f;clear f)
    refine⟨rfl, ?_⟩;unfold eb;rw[Qs (by simp[Q.o]),<-C.o,V.o,Qs (by simp;omega)];exact⟨rfl,U.o.trans (z.o.none _)⟩
  .skip
   go_wp2_with(go_at_call 53;refine(Bu _ _).mono ?_;rintro e w9 ⟨i,f⟩;unfold By at i;subst i;have z:=hZ f;clear f)
   refine⟨rfl, ?_⟩;unfold eb;rw[Qs (by simp[Q.o]),<-C.o,V.o,Qs (by simp;omega)];exact⟨rfl,U.o.trans (z.o.none _)⟩
theorem eB(o:Bq)(sv:Vl)(ys:List Vl)(X N B a c:Nat)(d:Vl)(l:List Tr)(vs:List Vl)(b:List Nat)(w:Wl)(f:Br w)(m:dM w)(g:T7 o)(q:o.path.size<=2097152)(n:o.frm.size<=2097152)(i:As w sv 6 o.steps.length ys)(j:Az w o.steps ys)(k:Ac w X (BJ o sv) 42)(h:ei N B a c d l vs b w)(r:(Ag (.list l)).within=true)(p:l.length<=65536):
  Cl prog 50 #[.pointer (some ⟨X,0,none⟩),.pointer (some ⟨N,0,none⟩),.pointer (some ⟨B,0,none⟩),.pointer (some ⟨a,0,none⟩)] w (eb o N B a c d l b w):=by
 by_cases e:Bn o=0
 .exact ey o sv ys X N B a c d l vs b w f m g q n i j k e h r p
 .exact ev o sv ys X N B a c d l b w f g i j k e
theorem ei.kept{N B e i:Nat}{j:Vl}{l:List Tr}{vs:List Vl}{f cs:List Nat}{w w':Wl}(h:ei N B e i j l vs f w)(b:Chg w w' cs)(c:∀y,y∈cs->y∉[N,B,e,i]/\j.ownBlock≠some y/\y∉f):ei N B e i j l vs f w':=
 ⟨h.cn.kept b (fun a=>(c _ a).1 (by simp)),h.cb.kept b (fun a=>(c _ a).1 (by simp)),h.cl.kept b (fun a=>(c _ a).1 (by simp)),h.bl.kept b (fun a=>(c _ a).1 (by simp)),h.row.kept b (fun g k a=>(c g a).2.1 k),
  h.at_.chg b (fun y d a=>(c y d).2.2 a),h.nd,h.own,fun y d=>⟨Q6 (h.sep y d).1 b.size,(h.sep y d).2⟩⟩
def ez(r:ZW)(w:Wl)(e:Ending)(w':Wl):Prop:=match r with
 | .yes t=>F9 t w e w'
 | .no k i=>e= .returned (.tuple #[.pointer none,Hk k i])/\Chg w w' []
structure eC(w0:Wl)(N B L9 lb:Nat)(ops:List Bq)(i:Nat)(w:Wl):Prop where
 ex:∃sl vs fs,ei N B L9 lb sl ((ops.take i).map OK) vs fs w/\(∀g,sl.ownBlock=some g->w0.heap.size<=g)/\(∀y,y∈fs->w0.heap.size<=y)
 right:∀o∈ops.take i,Bn o=0
 fits:(Ag (.list ((ops.take i).map OK))).within=true
 chg:Chg w0 w []
 run:∀r,Sp [] 0 ops=r->Sp ((ops.take i).map OK) i (ops.drop i)=r
theorem eC.kept2{w0 w w':Wl}{N B a c:Nat}{d:List Bq}{i:Nat}(h:eC w0 N B a c d i w)(b:Chg w w' []):eC w0 N B a c d i w':=by
 obtain⟨l,vs,e,f,g,j⟩:=h.ex;exact⟨⟨l,vs,e,f.kept b (fun y k=>(by cases k)),g,j⟩,h.right,h.fits,h.chg.trans b,h.run⟩
theorem eA{a:List Bq}{i:Nat}{o:Bq}(b:a[i]? =some o):a.drop i=o::a.drop (i+1):=by
 obtain⟨h,e⟩:=Qc.1 b;rw[<-e];exact List.drop_eq_getElem_cons h
theorem eG{a b:Int}(h:By a=By b):a=b:=by unfold By KN at h;simpa using h
def eE(w0:Wl)(N B b c:Nat)(a:List Bq)(i:Nat)(e:Ending)(w':Wl):Prop:=
 (e= .returned (.int .i64 0)/\eC w0 N B b c a (i+1) w')\/(∃k:Nat,k≠0/\e= .returned (.int .i64 k)/\Sp [] 0 a= .no k i/\Chg w0 w' [])
theorem eF(w0:Wl)(N B s n:Nat)(q:List Bq)(i:Nat)(o:Bq)(sv:Vl)(ys:List Vl)(X:Nat)(w:Wl)(l:eC w0 N B s n q i w)(E:∀y,y∈[N,B,s,n]->w0.heap.size<=y)(M:q[i]? =some o)(T:Br w)(Y:dM w)(U:T7 o)(A:o.path.size<=2097152)(hf:o.frm.size<=2097152)(V:As w sv 6 o.steps.length ys)(W:Az w o.steps ys)(Z:Ac w X (BJ o sv) 42)(hn:q.length<=65536):
  Cl prog 49 #[.func (.func 50) #[] #[.pointer (some ⟨X,0,none⟩),.pointer (some ⟨N,0,none⟩),.pointer (some ⟨B,0,none⟩),.pointer (some ⟨s,0,none⟩)]] w (eE w0 N B s n q i):=by
 obtain⟨u,vs,L,f,O,aa⟩:=l.ex
 have ae:∀y,y∈N::B::n::u.ownBlock.toList->y<w.heap.size:=fun y b=>by
  simp only[Qh,Option.mem_toList]at b
  rcases b with rfl|rfl|rfl|b
  .exact f.cn.lt
  .exact f.cb.lt
  .exact f.bl.lt
  .exact f.row.lt b
 have ab:∀y,y∈N::B::n::u.ownBlock.toList->w0.heap.size<=y:=fun y b=>by
  simp only[Qh,Option.mem_toList]at b
  rcases b with rfl|rfl|rfl|b
  .exact E _ (by simp)
  .exact E _ (by simp)
  .exact E _ (by simp)
  .exact O _ b
 have ad:((q.take i).map OK).length<=65536:=by rw[List.length_map,Ql];omega
 refine(Xp 50 _ (N::B::n::u.ownBlock.toList) w (fun v e H=>eb o N B s n u ((q.take i).map OK) L v e H) ae (fun _=>by kernel_rfl) (fun v t=>eB o sv ys X N B s n u _ vs L v (T.kept t (by simp)) (Y.kept t) U A hf (V.kept t) (Az.kept t W) (Z.kept t (by simp)) (f.kept t (by simp)) l.fits ad) (fun v e H h=> ?_)).mono fun e w' ⟨v,H,aj,I,R,ak,J,K,af⟩=> ?_
 .refine⟨h.2, ?_⟩
  have a:=h.1;split at a
  .exact .inr ⟨_,a⟩
  .split at a
   .exact .inl a.1
   .exact .inr ⟨3,a⟩
 .have F:Chg w0 w' []:=((l.chg.trans I).fresh K ab).fresh J (fun y b=>by simp at b;subst b;exact Q7 l.chg.size R)
  have m:=l.run _ rfl;rw[eA M]at m;simp only[Sp]at m
  rcases af with⟨G,x⟩|⟨k,G,x⟩
  .have a:=G.1
   split at a
   .rename_i j;unfold By at a;cases a
   .rename_i j
    split at a
    .rename_i D
     obtain⟨_,ah,ai,S,t1,P,Q⟩:=a;rw[Qs j,Qr D]at m;have C:q.take (i+1)=q.take i++[o]:=Cb M;have al:=I.size;have am:=K.size;refine .inl ⟨x,⟨ah,ai,S, ?_,fun g hg=> ?_,fun y b=> ?_⟩,fun p A=> ?_, ?_,F,fun r ag=> ?_⟩
     .rw[C,List.map_append]
      refine t1.kept J (fun y b=> ?_);simp at b;subst b;refine⟨fun z=> ?_,fun d=> ?_,fun z=> ?_⟩
      .have:y<w.heap.size:=by
        simp only[Qh,List.not_mem_nil,or_false]at z
        rcases z with d|d|d|d
        .rw[d];exact f.cn.lt
        .rw[d];exact f.cb.lt
        .rw[d];exact f.cl.lt
        .rw[d];exact f.bl.lt
       omega
      .rcases P _ d with c|c
       .have:=f.row.lt c;omega
       .omega
      .rcases Q _ z with c|c
       .have:=(f.sep _ c).1;omega
       .omega
     .rcases P g hg with c|c
      .exact O g c
      .have:=l.chg.size;omega
     .rcases Q y b with c|c
      .exact aa y c
      .have:=l.chg.size;omega
     .rw[C]at A
      rcases Qf.1 A with c|c
      .exact l.right p c
      .simp at c;subst c;simpa using j
     .rw[C,List.map_append];exact D
     .rw[C,List.map_append]
      rw[<-ag,<-m];rfl
    .unfold By at a;cases a
  .have a:=G.1
   split at a
   .rename_i j
    rw[Qr j]at m;exact .inr ⟨_,j,by rw[x,eG a],m.symm,F⟩
   .rename_i j
    split at a
    .obtain⟨d,_⟩:=a;unfold By at d;cases d
    .rename_i D
     rw[Qs j,Qs D]at m;exact .inr ⟨3,by decide,by rw[x,eG a];rfl,m.symm,F⟩
theorem ei.start(w:Wl):ei (w.heap.size+1+1) (w.heap.size+1+1+1) (w.heap.size+1) w.heap.size (.slice none 0 0) [] [] [] ((((w.alloc (.cells #[.slice none 0 0] 107)).alloc (.cells #[.pointer (some ⟨w.heap.size,0,none⟩)] 104)).alloc (.cells #[.int .i64 1] 3)).alloc (.cells #[.int .i64 0] 3)):=by
 refine⟨(BD _ _ [.int .i64 1] _ _ rfl (by simp)).alloc _,BD _ _ [.int .i64 0] _ _ rfl (by simp),((BD _ _ _ _ _ rfl (by simp)).alloc _).alloc _,(((BD _ _ _ _ _ rfl rfl).alloc _).alloc _).alloc _,AK.nil _ _,⟨rfl,rfl⟩, ?_,fun g a=>(by cases a),fun y b=>(by cases b)⟩;simp;omega
theorem eK{w0 w:Wl}{N B f d:Nat}{a:List Bq}(h:eC w0 N B f d a a.length w)(j:∀o∈a,T7 o/\o.path.size<=2097152/\o.frm.size<=2097152):
  Bt (.list (a.map OK))/\(∃bs,AP w (.list (a.map OK)) (Jn d) bs)/\Sp [] 0 a= .yes (.list (a.map OK))/\w.cell? ⟨f,0,none⟩=some (.pointer (some ⟨d,0,none⟩)):=by
 obtain⟨n,vs,k,b,l,m⟩:=h.ex;have e:a.take a.length=a:=Qn (Q8 _);have c:=h.run _ rfl;have i:=h.fits;have g:=h.right;rw[e]at i g c b;rw[List.drop_length]at c;exact⟨eJ g j i,⟨_,Sy.pat ⟨b.bl,b.row,b.at_⟩⟩,c.symm,b.cl.cell 0⟩
theorem gy(a:List Bq)(so:Vl)(xs:List Vl)(w:Wl)(hL:Br w)(aa:10<=w.heap.size)(ab:dM w)(H:As w so 4 a.length xs)(hI:Cc w a xs)(hs:∀o∈a,T7 o/\o.path.size<=2097152/\o.frm.size<=2097152)(hn:a.length<=65536):
  Cl prog 24 #[so] w (ez (Sp [] 0 a) w):=by
 obtain⟨sa,sc,rfl,_⟩:=H.form;have ax:∀(Z:Fn) (first Y:Array Vl) (w:Wl),(Instr.makeFunc Z first Y).run prog w= .ok (.func Z first Y) w:=fun _ _ _ _=>rfl
 have HL:=hZ hL;have au:=hZ aa;have ar:=hZ ab;have T:=hZ H;have HI:=hZ hI;have U:=hZ hs;obtain⟨n,K⟩:∃n,n=a.length:=⟨_,rfl⟩
 have f:=hZ K;rw[<-K]at hn|-;have av:¬((65536:Int)<(n:Int)):=by omega
 clear hL aa ab H hI hs K;go_enter func24,ntmps24
 go_wp2_with fail
 obtain⟨R,t⟩:∃y,y=(((w.alloc (.cells #[.slice none 0 0] 107)).alloc (.cells #[.pointer (some ⟨w.heap.size,0,none⟩)] 104)).alloc (.cells #[.int .i64 1] 3)).alloc (.cells #[.int .i64 0] 3):=⟨_,rfl⟩
 have s:ei (w.heap.size+1+1) (w.heap.size+1+1+1) (w.heap.size+1) w.heap.size (.slice none 0 0) [] [] [] R:=by rw[t];exact ei.start w
 have h4:Chg w R []:=by rw[t];exact(((((Chg.refl w []).alloc _).alloc _).alloc _).alloc _)
 rw[<-t];obtain⟨N,G⟩:∃x,x=w.heap.size+1+1:=⟨_,rfl⟩
 obtain⟨B,D⟩:∃x,x=w.heap.size+1+1+1:=⟨_,rfl⟩
 obtain⟨p,E⟩:∃x,x=w.heap.size+1:=⟨_,rfl⟩
 obtain⟨v,ah⟩:∃x,x=w.heap.size:=⟨_,rfl⟩
 have ae:∀y,y∈[N,B,p,v]->w.heap.size<=y:=fun y M=>by
  simp only[Qh,List.not_mem_nil,or_false]at M;omega
 have aq:=hZ ae;rw[<-D,<-G,<-E]at s;rw[<-D,<-G,<-E];rw[<-ah]at s|-;have V:Hid (eC w N B p v a 0 R):=hZ ⟨⟨_,_,_,s,fun g hg=>(by cases hg),fun y M=>(by cases M)⟩,fun o d=>(by cases d),(by rfl),h4,fun r hr=>hr⟩;clear s h4 t ae G D E ah;go_loopw [18] (fun Q wr=>∃k:Nat,k<=n/\Q= .int .i64 k/\eC w N B p v a k wr) (fun Q _=>n-(intOf Q).toNat)
 case atStart=>exact⟨0,by omega,rfl,V.o⟩
 case round=>
  obtain⟨k,hk,rfl,af⟩:=hrel;have c:=hZ af;clear af V;by_cases aw:k<n
  .obtain⟨o,d⟩:∃o,a[k]? =some o:=⟨_,Q9 (by have:=f.o;omega)⟩
   obtain⟨b,ob,rfl,_⟩:=T.o.base (by have:=f.o;omega) (by decide);obtain⟨sv,ys,L,ap,ao⟩:=Cc.item T.o (by have:=f.o;omega) HI.o d;obtain⟨O,P,rfl,_⟩:=L.form;have h:∀j x,(BJ o (.slice O o.steps.length P))[j]? =some x->wr.cell? ⟨b,ob+k*4+j,none⟩=some x:=fun j x hx=>c.o.chg.keeps (ao j x hx)
   have X:=h 0 _ rfl;have c1:=h 1 _ rfl;have c2:=h 2 _ rfl;have c3:=h 3 _ rfl;rw[Nat.add_zero]at X;obtain⟨S,u⟩:∃y,y=wr.alloc (.cells #[.int .i64 o.kind,.string o.path,.string o.frm,.slice O o.steps.length P] 42):=⟨_,rfl⟩
   have I:Chg wr S []:=by rw[u];exact(Chg.refl wr []).alloc _
   have ad:Ac S wr.heap.size (BJ o (.slice O o.steps.length P)) 42:=by rw[u];exact BD _ _ _ _ _ rfl rfl
   have i:=c.o.chg.trans I;obtain⟨ai,aj,ak⟩:=U.o o (Qi d);have z:=hZ (eF w N B p v a k o _ ys wr.heap.size S (c.o.kept2 I) aq.o d (HL.o.kept i (by simp)) (ar.o.kept i) ai aj ak (L.kept i) (Az.kept i ap) ad (by have:=f.o;omega));rw[u]at z;clear u I ad i ai aj ak h ao L ap d;obtain⟨m,hm⟩:∃q,q=o.steps.length:=⟨_,rfl⟩
   rw[<-hm]at z c3;clear hm;go_wp2_with((go_at_call 49;refine z.o.mono ?_;rintro e w3 (⟨rfl,C⟩|⟨q,hq,rfl,an,C⟩);all_goals(have l:=hZ C;clear C);all_goals(try (have A:=hZ an;clear an;have ay:((q:Int) !=0)=true:=(by rw[bne_iff_ne];omega)))))
   .go_roundw
    case rel=>exact⟨k+1,by omega,by go_num,l.o⟩
    case measure=>simp[intOf];omega
   .go_ret2
    rw[A.o];exact⟨rfl,l.o⟩
  .obtain rfl:k=n:=by omega
   have J:=c.o;rw[f.o]at J;obtain⟨ag,⟨bs,al⟩,am,X⟩:=eK J U.o;have W:=hZ (ZC ag al);have A:=hZ am;clear J ag al am;unfold Jn at W;go_wp2_with((go_at_call 44;refine W.o.mono ?_;rintro e w3 ⟨F,tb,rfl,t1,t2,t3,t4,t5⟩;have H1:=hZ t1;have H2:=hZ t2;have l:=hZ t3;have H4:=hZ t4;have H5:=hZ t5;clear t1 t2 t3 t4 t5))
   go_ret2
   rw[A.o];have hz:=c.o.chg.size;exact⟨F,tb,rfl,H1.o,H2.o,c.o.chg.trans l.o,fun b hb=>Q7 hz (H4.o b hb),Q7 hz H5.o⟩
end
section
open Go Go.Shelf Go.RowKit Go.Lib Tree Ptr
structure fT(w0:Wl)(os:List Bq)(i:Nat)(sv:Vl)(w:Wl):Prop where
 ex:∃xs G,Ba w sv 42 4 i xs/\Eh w G (os.take i) xs/\(∀b,G b->w0.heap.size<=b/\b<w.heap.size)/\∀g,sv.ownBlock=some g->w0.heap.size<=g/\¬G g
 chg:Chg w0 w []
theorem fT.next{w0 wr c t k:Wl}{os:List Bq}{i g u:Nat}{o:Bq}{sv p:Vl}{xs ys:List Vl}{G d:Nat->Prop}(w:Chg w0 wr [])(D:Ba wr sv 42 4 i xs)(E:Eh wr G (os.take i) xs)(r:∀b,G b->w0.heap.size<=b/\b<wr.heap.size)(n:∀g,sv.ownBlock=some g->w0.heap.size<=g/\¬G g)(J:os[i]? =some o)(q:Chg wr c [])(F:As c p 6 o.steps.length ys)(v:SE d p)(H:Cr c d o.steps ys)(f:∀b,d b->wr.heap.size<=b/\b<c.heap.size)(l:Chg c t [])(C:Ba k (.slice (some ⟨g,0,none⟩) (i+1) u) 42 4 (i+1) (xs++BJ o p))(m:Chg t k sv.ownBlock.toList)(I:sv.ownBlock=some g\/g=t.heap.size):fT w0 os (i+1) (.slice (some ⟨g,0,none⟩) (i+1) u) k:=by
 have M:=q.size;have N:=l.size;have O:=m.size;have L:=w.size;have x:∀y,sv.ownBlock=some y->y<wr.heap.size:=fun y j=>D.lt j
 have K:BZ G wr k:=((q.trans l).none sv.ownBlock.toList|>.trans m).keepsF (fun b a=>(r b a).2) (fun b s a=>(n b (by simpa using s)).2 a);have z:BZ d c k:=((l.none sv.ownBlock.toList).trans m).keepsF (fun b a=>(f b a).2) (fun b s a=>by have A:=x b (by simpa using s);have B:=(f b a).1;omega);refine⟨⟨_,fun b=>G b\/d b,C, ?_,fun b a=> ?_,fun y j=> ?_⟩,((w.trans q).trans l).fresh m (fun y j=>(n y (by simpa using j)).1)⟩
 .rw[Cb J]
  refine(Eh.kept K (fun _ h=> .inl h) E).append ⟨p,ys,[],by simp,F.keptF v z,v.mono (fun _ h=> .inr h),Cr.kept z (fun _ h=> .inr h) H,rfl⟩
 .rcases a with a|a
  .have:=r b a;omega
  .have:=f b a;omega
 .have e:g=y:=by injection j
  subst e
  rcases I with h|h
  .refine⟨(n g h).1,fun a=> ?_⟩
   rcases a with a|a
   .exact(n g h).2 a
   .have A:=x g h;have B:=(f g a).1;omega
  .refine⟨by omega,fun a=> ?_⟩
   rcases a with a|a
   .have:=r g a;omega
   .have:=f g a;omega
theorem fT.done{w0 w:Wl}{os:List Bq}{sv:Vl}{n:Nat}(h:fT w0 os n sv w)(j:n=os.length):∃xs G,EW w0 w os sv xs G:=by
 obtain⟨xs,G,f,d,g,i⟩:=h.ex;subst j;rw[List.take_length]at d;refine⟨xs,fun b=>G b\/sv.ownBlock=some b,f.rowC (by rw[d.length]),fun b o n c e=> ?_,Eh.kept (fun _ _ _=>rfl) (fun _ h=> .inl h) d,fun b a=> ?_⟩
 .rw[e];exact .inr rfl
 .rcases a with a|a
  .exact g b a
  .exact⟨(i b a).1,f.lt a⟩
theorem fT.start{w a:Wl}{os:List Bq}(h:Chg w a []):fT w os 0 (.slice none 0 0) a:=⟨⟨[],fun _=>False,Ba.nil _ _ _,rfl,fun b (c:False)=>c.elim,fun g d=>by cases d⟩,h⟩
end
section
open _root_.Go.Proofs.Tryz
open Go Go.Shelf Go.RowKit Go.Lib Tree Ptr
theorem gh(a:Option Addr)(n c:Nat)(w:Wl)(d:65536<n)(f:n<=4294967296):
  Cl prog 24 #[.slice a n c] w fun e w'=>e= .returned (.tuple #[.pointer none,.iface 50 (.int .i64 3)])/\Chg w w' []:=by
 have b:(65536:Int)<(n:Int):=Zj
 go_enter func24,ntmps24
 go_wp2_with fail
 go_ret2
 exact⟨rfl,Chg.refl _ _⟩
theorem gf:∀{c:List Bq} {l:List Tr} {i:Nat} {t:Tr},Sp l i c= .yes t->(Ag (.list l)).within=true->(Ag t).within=true
 |[],l,i,t,h,a=>by simp only[Sp]at h;injection h with h;rw[<-h];exact a
 |o::r,l,i,t,h,a=>by
  simp only[Sp]at h;split at h
  .cases h
  .split at h
   .rename_i b;exact gf h b
   .cases h
def gF(a b X:Nat)(sv:Vl)(j:Nat)(y:Vl):Prop:=match j with
 |0=>y= .nilIface
 |3=>y= .nilIface
 |7=>y= .pointer (some ⟨a,0,none⟩)
 |8=>y= .pointer (some ⟨b,0,none⟩)
 |9=>y= .bool true
 |13=>y= .pointer (some ⟨a,0,none⟩)
 |14=>True
 |15=>y= .pointer (some ⟨X,3,none⟩)
 |16=>y=sv
 |17=>y= .bool true
 |_=>y= .bool false
structure gc(x:Tr)(ta tc X:Nat)(sv:Vl)(w4:Wl)(d:Nat->Bool)(f:Nat->Vl)(w:Wl):Prop where
 chg:Chg w4 w []
 vals:∀j,d j=true->gF ta tc X sv j (f j)
 s1:d 14=true->DX w (f 14) (MW x)
theorem gc.put{x:Tr}{a b X:Nat}{sv:Vl}{m w w':Wl}{d:Nat->Bool}{f:Nat->Vl}{j:Nat}{y:Vl}(h:gc x a b X sv m d f w)(c:(14:Nat)≠j)(n:gF a b X sv j y)(g:Chg w w' []):gc x a b X sv m (BA d j) (Eb f j y) w':=
 ⟨h.chg.trans g,fun k l=>by
  by_cases e:k=j
  .subst e;rw[Bf];exact n
  .rw[AA f y e];rw[An d e]at l;exact h.vals k l,fun i=>by rw[AA f y c];rw[An d c]at i;exact(h.s1 i).kept g⟩
structure gW(w0:Wl)(l:List Ap)(i:Nat)(sv:Vl)(w:Wl):Prop where
 ex:∃ys G,Ba w sv 72 6 i ys/\Cr w G (l.take i) ys/\(∀b,G b->w0.heap.size<=b/\b<w.heap.size)/\∀g,sv.ownBlock=some g->w0.heap.size<=g/\¬G g
 chg:Chg w0 w []
theorem gW.next{w0 wr j t c:Wl}{l:List Ap}{i g u:Nat}{s:Ap}{sv sk:Vl}{ys:List Vl}{G k:Nat->Prop}(x:Chg w0 wr [])(C:Ba wr sv 72 6 i ys)(D:Cr wr G (l.take i) ys)(q:∀b,G b->w0.heap.size<=b/\b<wr.heap.size)(o:∀g,sv.ownBlock=some g->w0.heap.size<=g/\¬G g)(H:l[i]? =some s)(p:Chg wr j [])(E:As j sk 1 s.keys.length (Ad s.keys))(w:SE k sk)(d:∀b,k b->wr.heap.size<=b/\b<j.heap.size)(m:Chg j t [])(v:Ba c (.slice (some ⟨g,0,none⟩) (i+1) u) 72 6 (i+1) (ys++AI s sk))(n:Chg t c sv.ownBlock.toList)(F:sv.ownBlock=some g\/t.heap.size<=g):gW w0 l (i+1) (.slice (some ⟨g,0,none⟩) (i+1) u) c:=by
 have M:=p.size;have N:=m.size;have O:=n.size;have L:=x.size;have z:∀y,sv.ownBlock=some y->y<wr.heap.size:=fun y f=>C.lt f
 have K:g<c.heap.size:=v.lt rfl;have I:BZ G wr c:=((p.trans m).none sv.ownBlock.toList|>.trans n).keepsF (fun b a=>(q b a).2) (fun b r a=>(o b (by simpa using r)).2 a);have J:BZ k j c:=((m.none sv.ownBlock.toList).trans n).keepsF (fun b a=>(d b a).2) (fun b r a=>by have A:=z b (by simpa using r);have B:=(d b a).1;omega);refine⟨⟨_,fun b=>G b\/k b,v, ?_,fun b a=> ?_,fun y f=> ?_⟩,((x.trans p).trans m).fresh n (fun y f=>(o y (by simpa using f)).1)⟩
 .rw[Cb H]
  exact(Cr.kept I (fun _ h=> .inl h) D).append ⟨sk,[],Zh,E.keptF w J,w.mono (fun _ h=> .inr h),rfl⟩
 .rcases a with a|a
  .have:=q b a;omega
  .have:=d b a;omega
 .have e:g=y:=by injection f
  subst e
  rcases F with h|h
  .refine⟨(o g h).1,fun a=> ?_⟩
   rcases a with a|a
   .exact(o g h).2 a
   .have A:=z g h;have B:=(d g a).1;omega
  .refine⟨Zj,fun a=> ?_⟩
   rcases a with a|a
   .have:=q g a;omega
   .have:=d g a;omega
theorem gW.done{w0 w:Wl}{l:List Ap}{sv:Vl}{n:Nat}(h:gW w0 l n sv w)(j:n=l.length):∃ys G,As w sv 6 l.length ys/\SE G sv/\Cr w G l ys/\∀b,G b->w0.heap.size<=b/\b<w.heap.size:=by
 obtain⟨xs,G,f,d,g,i⟩:=h.ex;subst j;rw[List.take_length]at d;refine⟨xs,fun b=>G b\/sv.ownBlock=some b,f.rowC (by rw[Az.length d.toR]),fun b o n c e=> ?_,Cr.kept (fun _ _ _=>rfl) (fun _ h=> .inl h) d,fun b a=> ?_⟩
 .rw[e];exact .inr rfl
 .rcases a with a|a
  .exact g b a
  .exact⟨(i b a).1,f.lt a⟩
theorem gW.start{w0 w:Wl}{l:List Ap}{B c:Nat}(a:Ba w (.slice (some ⟨B,0,none⟩) 0 c) 72 6 0 [])(f:w0.heap.size<=B)(h:Chg w0 w []):gW w0 l 0 (.slice (some ⟨B,0,none⟩) 0 c) w:=
 ⟨⟨[],fun _=>False,a,rfl,fun b (d:False)=>d.elim,fun g e=>⟨by simp[Vl.ownBlock]at e;omega,id⟩⟩,h⟩
theorem iJ{w0 w:Wl}{os:List Bq}{B c:Nat}(a:Ba w (.slice (some ⟨B,0,none⟩) 0 c) 42 4 0 [])(f:w0.heap.size<=B)(h:Chg w0 w []):fT w0 os 0 (.slice (some ⟨B,0,none⟩) 0 c) w:=
 ⟨⟨[],fun _=>False,a,rfl,fun b (d:False)=>d.elim,fun g e=>⟨by simp[Vl.ownBlock]at e;omega,id⟩⟩,h⟩
def jb(b:List Bq)(w:Wl)(e:Ending)(w':Wl):Prop:=∃a xs G,e= .returned a/\EW w w' b a xs G/\Chg w w' []
theorem iD(z:List Bq)(so:Vl)(xs:List Vl)(w:Wl)(hR:As w so 4 z.length xs)(hI:Cc w z xs)(B:∀o∈z,T7 o)(hn:z.length<=4294967296):
  Cl prog 14 #[so] w (jb z w):=by
 obtain⟨sa,sc,rfl,_⟩:=hR.form;have HR:=hZ hR;have HI:=hZ hI;have HS:=hZ B;obtain⟨n,ah⟩:=Ue z.length
 have Q:=hZ ah;rw[<-ah]at hn|-;clear hR hI B ah;go_enter func14,ntmps14
 go_wp2_with((at_make;refine KM rfl _ _ _ rfl 42 (.agg #[.int .i64 0,.string ⟨#[]⟩,.string ⟨#[]⟩,.slice none 0 0]) 4 64 underlying23 JK _ _ _ (n+2) rfl rfl (by first|rfl|omega) Zj (by unfold maxLen;omega) w.heap.size Zh ?_;intro w1 r aL;have av:=hZ r;have ap:=hZ aL;clear r aL))
 go_loopw [15,3] (fun al v3 wr=>∃i:Nat,i<=n/\al= .int .i64 i/\fT w z i v3 wr) (fun al _ _=>n-(intOf al).toNat)
 case atStart=>exact⟨0,Zj,rfl,iJ av.o (Q8 _) ap.o⟩
 case round=>
  obtain⟨i,hi,rfl,aP⟩:=hrel;have A:=hZ aP;clear aP av ap;by_cases be:i<n
  .obtain⟨o,R⟩:∃o,z[i]? =some o:=⟨_,Q9 (by have:=Q.o;omega)⟩
   obtain⟨b,ob,rfl,_⟩:=HR.o.base (by have:=Q.o;omega) ZM;obtain⟨sv,yv,aj,aS,aQ⟩:=Cc.item HR.o (by have:=Q.o;omega) HI.o R;obtain⟨U,V,rfl,_⟩:=aj.form;have a:∀j x,(BJ o (.slice U o.steps.length V))[j]? =some x->wr.cell? ⟨b,ob+i*4+j,none⟩=some x:=fun j x hx=>A.o.chg.keeps (aQ j x hx)
   have c0:=a 0 _ rfl;have c1:=a 1 _ rfl;have c2:=a 2 _ rfl;have c3:=a 3 _ rfl;rw[Nat.add_zero]at c0;obtain⟨bc,G0,ab,aD,aB,aK⟩:=A.o.ex;obtain⟨qa,qc,rfl,_⟩:=ab.form;have ad:=HS.o o (Qi R);have HO:=hZ R;have ay:=hZ aj;have a4:=hZ aS;have au:=hZ ab;have a0:=hZ aD;have aY:=hZ aB;have a5:=hZ aK;have a1:=hZ ad;have az:=hZ A.o.chg;obtain⟨m,t⟩:=Ue o.steps.length
   have bg:m<=4294967296:=by have:=ad.len;omega
   have P:=hZ t;rw[<-t]at ay c3;clear t R a aQ aj aS ab aD aB aK ad A;go_wp2_with((at_make;refine KM rfl _ _ _ rfl 72 Iq 6 72 underlying22 DM _ _ _ (m+2) rfl rfl (by first|rfl|omega) Zj (by unfold maxLen;omega) (wr.heap.size+1) Zh ?_;intro w2 aC af;have aw:=hZ aC;have aq:=hZ af;have H:=hZ ((Ac.new wr [.int .i64 o.kind,.string o.path,.string o.frm,.slice U m V] 42).kept af);obtain⟨lx,fx,x0,x1,x2,x3⟩:=Ac.cells4 H.o;clear aC af))
   obtain⟨M,ak⟩:=Ue (wr.alloc (.cells #[.int .i64 o.kind,.string o.path,.string o.frm,.slice U m V] 42))
   have D:Hid (Chg wr M []/\M.heap.size=wr.heap.size+1/\Ac M wr.heap.size [.int .i64 o.kind,.string o.path,.string o.frm,.slice U m V] 42):=by rw[ak];exact hZ ⟨(Chg.refl wr []).alloc _,Zh,Ac.new _ _ _⟩
   have ar:Hid (Chg M w2 []):=by rw[ak];exact aq
   clear ak aq;obtain⟨C,ba⟩:=Ue wr
   subst ba;go_loopw [27,6] (fun am v6 wq=>∃j:Nat,j<=m/\am= .int .i64 j/\gW M o.steps j v6 wq) (fun am _ _=>m-(intOf am).toNat)
   case atStart=>exact⟨0,Zj,rfl,gW.start aw.o (by have:=D.o.2.1;omega) ar.o⟩
   case round=>
    obtain⟨j,hj,rfl,aG⟩:=hrel;have l:=hZ aG;clear aG aw ar H lx fx x0 x1 x2 x3;by_cases bf:j<m
    .obtain⟨s,B⟩:∃s,o.steps[j]? =some s:=⟨_,Q9 (by have:=P.o;omega)⟩
     obtain⟨sb,bb,rfl,aF⟩:=ay.o.base Zj ZM;obtain⟨sk,ai,aR⟩:=Az.get a4.o j s B;obtain⟨ka,kc,rfl,_⟩:=ai.form;have S:Chg w wr []:=(az.o.trans D.o.1).trans l.o.chg;have a:∀q v,(AI s (.slice ka s.keys.length kc))[q]? =some v->wr.cell? ⟨sb,bb+j*6+q,none⟩=some v:=fun q v L=>S.keeps (by rw[Nat.add_assoc];exact aF _ v (aR q v L))
     have d0:=a 0 _ rfl;have d1:=a 1 _ rfl;have d2:=a 2 _ rfl;have d3:=a 3 _ rfl;have d4:=a 4 _ rfl;have d5:=a 5 _ rfl;rw[Nat.add_zero]at d0;have aN:s.keys.length<=4294967296:=by have:=(a1.o.steps s (Qi B)).keys;omega
     have an:=UD (∀N,Chg wr N []->Cl prog 42 #[.slice ka s.keys.length kc] N (Dm N 9 (Ad s.keys))) fun N hy=>by
      have h1:=(ai.kept (S.trans hy)).rowLt;exact DL _ _ _ N h1 (Gu s.keys) (by rw[Ao];exact aN)
     obtain⟨ys,G,hL,hO,hG,E⟩:=l.o.ex;obtain⟨f,k,rfl,_⟩:=hL.form;have bd:=hZ S;have a3:=hZ B;have HL:=hZ hL;have a2:=hZ hO;have aZ:=hZ hG;have a6:=hZ E;have aV:=hZ l.o.chg;obtain⟨p,ag⟩:=Ue s.keys.length
     have Y:=hZ ag;rw[<-ag]at an d5;clear B aF ai aR a aN hL hO hG E l S ag
     go_wp2_with(first
      |(go_at_call 42;refine(an.o _ (by exact cg cR)).mono ?_;rintro e F ⟨v5,rfl,T,k2,k3⟩;obtain⟨u,y,rfl,_⟩:=T.form;rw[Ao,<-Y.o]at T k2|-;have K1:=hZ T;have K2:=UD (∀g,(Vl.slice u p y).ownBlock=some g->wr.heap.size+1<=g) (fun g E=>by have:=k2 g E;simpa using this);have aU:=hZ ((Ac.new wr [.int .i64 s.sort,.bool s.flag,.int .u64 s.bits,.string s.text,.int .i64 s.count,.slice ka p kc] 72).kept k3);have H5:=UD (Chg wr F []) (ct cR k3);obtain⟨ly,fy,y0,y1,y2,y3,y4,y5⟩:=Ac.cells6 aU.o;clear T k2 k3)
      |(at_builtin;go_loud(refine Bg rfl _ _ _ rfl 72 Iq 6 72 ZM underlying22 DM rfl (.slice f j k) j ys ZN (by exact HL.o.kept (bs:=[]) ((H5.o.setCell _ _ Zh).alloc _) Zh) F.heap.size (AI s (.slice u p y)) ZN rfl (by intro j v L;exact((BD _ _ (AI s (.slice u p y)) 72 _ rfl Zh).cell j).trans L) (C0 _ _ _ _) Zj Zj ?_);intro g a7 w7 J I K;have Z:=hZ J;have X:=hZ I;have aa:=hZ K;clear J I K))
     go_roundw
     case rel=>
      have h6:Chg wr ((F.setCell ⟨wr.heap.size,5,none⟩ (.slice u p y)).alloc (.cells (AI s (.slice u p y)).toArray 72)) []:=(H5.o.setCell _ _ Zh).alloc _;have a8:Chg F ((F.setCell ⟨wr.heap.size,5,none⟩ (.slice u p y)).alloc (.cells (AI s (.slice u p y)).toArray 72)) [wr.heap.size]:=((Chg.refl F _).setCell _ _ Zh).alloc _;have aM:=K1.o.kept a8 (fun g E t=>by have:=K2.o g E;simp at t;omega);refine⟨j+1,Zj,by go_num,gW.next aV.o HL.o a2.o aZ.o a6.o a3.o h6 (by rw[<-Y.o];have:=aM.rowC;rwa[Ao,<-Y.o]at this) (show SE (fun b=>(Vl.slice u p y).ownBlock=some b) _ from fun b o n c e=>by rw[e];rfl) (fun b d=>⟨by have:=K2.o b d;omega,aM.lt d⟩) cR Z.o X.o (aa.o.imp id (fun h=>by rw[h];simp))⟩
     case measure=>simp[intOf];omega
    .obtain rfl:j=m:=by omega
     obtain⟨ys,W,ae,aH,aI,aJ⟩:=l.o.done P.o;obtain⟨_,_,r,_⟩:=l.o.ex;obtain⟨f,k,rfl,_⟩:=r.form;clear r;have H:=hZ (D.o.2.2.kept l.o.chg);obtain⟨lx,fx,x0,x1,x2,x3⟩:=Ac.cells4 H.o;have aO:Chg C wr []:=D.o.1.trans l.o.chg;have ax:=hZ aO;have aA:=hZ D.o.2.1;rw[<-P.o]at ae;have aW:=hZ ae;have ao:=hZ aH;have aX:=hZ aI;have O:=hZ aJ;clear ae aH aI aJ aO D l;have bh:n<=4294967296:=hn
     go_wp2_with(first
      |(refine Bp rfl _ _ rfl C.heap.size ZN 42 [.int .i64 o.kind,.string o.path,.string o.frm,.slice f j k] (by exact(H.o.set 3 _).eq rfl) _ underlying42 rfl A0 ?_)
      |(at_builtin;go_loud(refine Bg rfl _ _ _ rfl 42 (.agg #[.int .i64 0,.string ⟨#[]⟩,.string ⟨#[]⟩,.slice none 0 0]) 4 64 ZM underlying23 JK rfl (.slice qa i qc) i bc ZN (by exact au.o.kept (bs:=[]) ((ax.o.setCell _ _ Zh).alloc _) Zh) wr.heap.size (BJ o (.slice f j k)) ZN rfl (by intro j' v L;exact((BD _ _ (BJ o (.slice f j k)) 42 _ rfl Zh).cell j').trans L) (Dx _ _ _ _) Zj Zj ?_);intro g a7 w7 J I K;have Z:=hZ J;have X:=hZ I;have aa:=hZ K;clear J I K))
     go_roundw
     case rel=>
      have a9:∀b,W b->b≠C.heap.size:=fun b d=>by have:=(O.o b d).1;have:=aA.o;omega
      have h6:Chg C ((wr.setCell ⟨C.heap.size,3,none⟩ (.slice f j k)).alloc (.cells (BJ o (.slice f j k)).toArray 42)) []:=(ax.o.setCell _ _ Zh).alloc _;have k6:BZ W wr ((wr.setCell ⟨C.heap.size,3,none⟩ (.slice f j k)).alloc (.cells (BJ o (.slice f j k)).toArray 42)):=(show Chg wr _ [C.heap.size]from((Chg.refl wr _).setCell _ _ Zh).alloc _).keepsF (fun b d=>(O.o b d).2) (fun b t d=>by simp at t;exact a9 b d t);exact⟨i+1,Zj,by go_num,fT.next az.o au.o a0.o aY.o a5.o HO.o h6 (by rw[<-P.o];exact aW.o.keptF ao.o k6) ao.o (Cr.kept k6 (fun _ h=>h) aX.o) (fun b d=>⟨by have:=(O.o b d).1;have:=aA.o;omega,Q6 (O.o b d).2 Zh⟩) cR Z.o X.o aa.o⟩
     case measure=>simp[intOf];omega
  .obtain rfl:i=n:=by omega
   obtain⟨bi,W,aE⟩:=A.o.done Q.o;obtain⟨_,_,r,_⟩:=A.o.ex;obtain⟨f,k,rfl,_⟩:=r.form;have aT:=hZ aE;clear aE r;go_wp2_with fail
   go_ret
   exact⟨_,_,_,rfl,aT.o,A.o.chg⟩
end
end Go.Proofs.YtkfnkppdhcaeoaaGreatDoor

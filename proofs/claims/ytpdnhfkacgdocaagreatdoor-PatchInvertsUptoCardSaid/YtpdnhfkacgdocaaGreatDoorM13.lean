/- Part 13 of the proof of both cards. -/
import Derived.Test.YtpdnhfkacgdocaaGreatDoorM08
import Derived.Test.YtpdnhfkacgdocaaGreatDoorM12
set_option maxRecDepth 100000
set_option maxHeartbeats 32000000
set_option linter.all false
namespace Go.Proofs.YtpdnhfkacgdocaaGreatDoor
open Go renaming Calls->Cl,TypeId->Ti,Value->Vl,World->Wl
open Go.Value renaming agg->nA,iface->nF,int->nI,pointer->nP,slice->nS,string->nG,tuple->nT
open Go.IntKind renaming i64->nX
open Go.Ending renaming returned->nR
open Go.Obj renaming cells->nC
open Option renaming none->nN,some->nM
section
open _root_.Go.Proofs.Tryz
open Go Go.Shelf Go.RowKit Go.Lib Go.Sort Tree Ptr
variable{a:Type}
theorem QP:(prog.info? 67).map (fun i=>(i.zero,i.size,i.bytes))=nM (nM .nilIface,1,16):=Yb
def Zr:Option (Ti×Vl)->Vl
 |none=> .nilIface
 |some (t,x)=> nF t x
theorem QF:∀{vs:List Vl},(∀v∈vs,∃t x,v= nF t x)->∃l:List (Option (Ti×Vl)),l.map Zr=vs
 |[],_=>⟨[],rfl⟩
 |v::vs,h=>by
  obtain⟨l,a⟩:=QF (vs:=vs) fun u b=>h u (by simp[b]);obtain⟨t,x,rfl⟩:=h v Zh;exact⟨nM (t,x)::l,by rw[List.map_cons,a];rfl⟩
theorem L0(l:List a)(i:Nat)(z:a)(hi:i<l.length):(l.take i++l.drop (i+1)++List.replicate (i+1-i) z).take (l.length-1)=l.eraseIdx i:=by
 rw[List.eraseIdx_eq_take_drop_succ];have b:(l.take i++l.drop (i+1)).length=l.length-1:=by rw[Qk,Ql,Qm];omega
 rw[List.take_append_of_le_length Zj,Qn Zj]
theorem LZ(l:List a)(i:Nat)(z:a)(hi:i<l.length):(l.take i++l.drop (i+1)++List.replicate (i+1-i) z).length=l.length:=by
 simp only[Qk,Ql,Qm,List.length_replicate];omega
theorem Oi{b:Type}(f:a->b)(l:List a)(i:Nat):(l.eraseIdx i).map f=(l.map f).eraseIdx i:=by
 rw[List.eraseIdx_eq_take_drop_succ,List.eraseIdx_eq_take_drop_succ,List.map_append,List.map_take,List.map_drop]
theorem Jc[Inhabited a](enc:a->Vl)(w:Wl)(n g:Nat)(d:Array a):Chg w (putRow enc (Sort.ahead w n) g 0 d) [g]:=by
 refine⟨rfl,rfl,rfl,by simp[putRow,mapBlock,Sort.ahead],fun k c b=> ?_⟩;have:g≠k:=fun e=>b (by simp[e]);simp[putRow,mapBlock,Sort.ahead,Array.getElem?_modify,this]
theorem QD(g c i:Nat)(ks:List BY)(w:Wl)(t:AK w (nS (nM ⟨g,0,nN⟩) ks.length c) 9 (Ad ks))(hi:i<ks.length):
  Cl prog 135 #[nS (nM ⟨g,0,nN⟩) ks.length c,nI nX i,nI nX (i+1)] w fun e w'=>
   e= nR (nS (nM ⟨g,0,nN⟩) (ks.length-1) c)/\AK w' (nS (nM ⟨g,0,nN⟩) (ks.length-1) c) 9 (Ad (ks.eraseIdx i))/\Chg w w' [g]:=by
 obtain⟨b,j⟩:=Ue (ks.map fun k=>k.data.toList:List (List UInt8));have h:b.length=ks.length:=by rw[j,List.length_map]
 have o:∀(l:List BY),(l.map fun k=>k.data.toList).map encStr=Ad l:=fun l=>by
  unfold Ad;rw[List.map_map];exact List.map_congr_left fun x _=>rfl
 have d:=t;unfold AK at d;rw[show(Ad ks).length=ks.length from Ao ks,<-o ks,<-j]at d;obtain⟨z,y,a,_,C,A,v,B,s⟩:=holds_of_ownsRow d Zh;injection a with a D u
 injection a with a
 injection a with a
 subst a;subst u;have f:=Any.slices_Delete_string cm g 0 c i (i+1) b w s Zj (by unfold maxLen at v;omega) Zj Zj;rw[h]at f;change Cl prog 135 _ _ _ at f;refine f.mono ?_;rintro e w' ⟨rfl,n,rfl⟩;have p:ks.length-(i+1-i)=ks.length-1:=Zj;refine⟨by rw[p], ?_,Jc _ _ _ _ _⟩;have m:=ownsRow_putRow (q:=n) (k:=ks.length-1) (ys:=b.take i++b.drop (i+1)++List.replicate (i+1-i) []) d (by rw[LZ _ _ _ Zj,h]) Zj
 have r:(b.take i++b.drop (i+1)++List.replicate (i+1-i) []).take (ks.length-1)=(ks.eraseIdx i).map fun k=>k.data.toList:=by
  rw[<-h,L0 _ _ _ Zj,j,Oi]
 rw[r,o]at m;unfold AK;rw[Ao,List.length_eraseIdx_of_lt hi];exact m
theorem V7(w:Wl):(zeroValue 67).run prog w= .ok (Zr nN) w:=zeroValue67 w
theorem xR{p:Prop}(h:p:=by rw[List.size_toArray];omega):p:=h
theorem NV(g c i:Nat)(vs:List Vl)(w:Wl)(u:∀v∈vs,∃t x,v= nF t x)(j:AK w (nS (nM ⟨g,0,nN⟩) vs.length c) 67 vs)(hi:i<vs.length):
  Cl prog 136 #[nS (nM ⟨g,0,nN⟩) vs.length c,nI nX i,nI nX (i+1)] w fun e w'=>
   e= nR (nS (nM ⟨g,0,nN⟩) (vs.length-1) c)/\AK w' (nS (nM ⟨g,0,nN⟩) (vs.length-1) c) 67 (vs.eraseIdx i)/\Chg w w' [g]:=by
 obtain⟨b,rfl⟩:=QF u;rw[List.length_map]at j hi|-;have d:=j;unfold AK at d;rw[List.length_map]at d;obtain⟨B,A,a,_,D,p,r,C,m⟩:=holds_of_ownsRow d Zh;injection a with a E o
 injection a with a
 injection a with a
 subst a;subst o;obtain⟨z,s,_,y,_⟩:=info_parts QP;have f:=AnyE.slices_Delete cj Zr (fun x=>by cases x<;>rfl) nN V7 z s y g 0 c i (i+1) b.toArray w m (by simpa using p) (by unfold maxLen at r;omega) Zj xR;rw[List.size_toArray]at f;change Cl prog 136 _ _ _ at f;refine f.mono ?_;rintro e w' ⟨rfl,n,rfl⟩;have l:b.length-(i+1-i)=b.length-1:=Zj;refine⟨by rw[l], ?_,Jc _ _ _ _ _⟩;have h:=ownsRow_putRow (q:=n) (k:=b.length-1) (ys:=b.take i++b.drop (i+1)++List.replicate (i+1-i) nN) d (by rw[LZ _ _ _ Zj]) Zj;rw[L0 _ _ _ hi]at h;unfold AK;rw[<-Oi,List.length_map,List.length_eraseIdx_of_lt hi];simpa using h
end
section
open _root_.Go.Proofs.Tryz
open Go Go.Shelf Go.RowKit Go.Lib Tree Ptr
variable{p:Prop}{w:Wl}
theorem AK.cap63{a:Option Addr}{n c:Nat}{e:Ti}{xs:List Vl}(h:AK w (nS a n c) e xs):c<=9223372036854775807:=by
 rcases h.2 with⟨b,_⟩|⟨i,cap,g,f,_,_,_,d,_⟩
 .injection b with _ _ b;omega
 .injection f with _ _ j;unfold maxLen at d;omega
def E1(w:Wl)(sv:Vl)(T:Ti)(n:Nat)(ys:List Vl)(e:Ending)(w':Wl):Prop:=
 ∃g cap,e= nR (nS (nM ⟨g,0,nN⟩) (n+1) cap)/\AK w' (nS (nM ⟨g,0,nN⟩) (n+1) cap) T ys/\Chg w w' sv.ownBlock.toList/\(sv.ownBlock=nM g\/w.heap.size<=g)
theorem GP:(prog.info? 9).map (fun i=>(i.zero,i.size,i.bytes))=nM (nM Ho,1,16):=Yb
theorem xK(h:p:=by go_ret;exact⟨m,cap,rfl,l.o,j.o,k.o.imp id fun h=>Zj⟩):p:=h
theorem xM(h:p:=by
 rcases b.o.one with⟨h,_⟩|⟨_,_,h,_⟩
 .cases h
 .injection h with h;injection h with h;injection h with F x y;exact⟨x,y⟩):p:=h
theorem xY(h:p:=by
 rcases b.o.one with⟨h,_⟩|⟨_,_,h,_⟩
 .injection h
 .cases h):p:=h
theorem xZ(h:p:=by
 rcases b.o.one with⟨_,h⟩|⟨_,_,h,_⟩
 .rw[h];rfl
 .cases h):p:=h
theorem Lr(sv u:Vl)(B:Nat)(cs:List Vl)(w:Wl)(f:AK w sv 9 cs)(s:Ac w B [u] 9)(v:u.oneCell'=true)(J:cs.length<=4294967296):
  Cl prog 130 #[sv,nI nX cs.length,nS (nM ⟨B,0,nN⟩) 1 1] w (E1 w sv 9 cs.length (cs.insertIdx cs.length u)):=by
 obtain⟨a,c,rfl,A⟩:=f.form;have n:=f.capLe;have G:=f.cap63;have p:=s.cell 0;simp only[Qa]at p;have t:cs.insertIdx cs.length u=cs++[u]:=by rw[AQ cs _ (Q8 _)];simp
 rw[t];have b:=hZ f;have q:=hZ p;have E:=hZ n;have H:=n.2;clear f s p t A n;cases a with
 |none=>
  have r:cs.length=0:=by
   exact xZ
  have z:c=0:=by
   exact xY
  obtain rfl:cs=[]:=List.eq_nil_of_length_eq_zero r;subst z;clear r;go_enter func130,ntmps130;go_wp2_with(refine AM rfl _ _ _ rfl 9 Ho 16 underlying27 GP rfl (nS nN 0 0) [] ZN b.o B u ZN q.o v Zh Zh ?_;intro m cap D i d e;have l:=hZ i;have j:=hZ d;have k:=hZ e;clear i d e);exact xK
 |some a=>
  obtain⟨g,o,C⟩:=a
  obtain⟨rfl,rfl⟩:o=0/\C=nN:=by
   exact xM
  by_cases I:c=cs.length
  all_goals
   go_enter func130,ntmps130;go_wp2_with(refine AM rfl _ _ _ rfl 9 Ho 16 underlying27 GP rfl (nS (nM ⟨g,0,nN⟩) cs.length c) cs ZN b.o B u ZN q.o v Zj Zj ?_;intro m cap D i d e;have l:=hZ i;have j:=hZ d;have k:=hZ e;clear i d e);exact xK
theorem Jg:(prog.info? 67).map (fun i=>(i.zero,i.size,i.bytes))=nM (nM .nilIface,1,16):=Yb
theorem NA(sv u:Vl)(B:Nat)(cs:List Vl)(w:Wl)(f:AK w sv 67 cs)(s:Ac w B [u] 67)(v:u.oneCell'=true)(J:cs.length<=4294967296):
  Cl prog 131 #[sv,nI nX cs.length,nS (nM ⟨B,0,nN⟩) 1 1] w (E1 w sv 67 cs.length (cs.insertIdx cs.length u)):=by
 obtain⟨a,c,rfl,A⟩:=f.form;have n:=f.capLe;have G:=f.cap63;have p:=s.cell 0;simp only[Qa]at p;have t:cs.insertIdx cs.length u=cs++[u]:=by rw[AQ cs _ (Q8 _)];simp
 rw[t];have b:=hZ f;have q:=hZ p;have E:=hZ n;have H:=n.2;clear f s p t A n;cases a with
 |none=>
  have r:cs.length=0:=by
   exact xZ
  have z:c=0:=by
   exact xY
  obtain rfl:cs=[]:=List.eq_nil_of_length_eq_zero r;subst z;clear r;go_enter func131,ntmps131;go_wp2_with(refine AM rfl _ _ _ rfl 67 .nilIface 16 underlying156 Jg rfl (nS nN 0 0) [] ZN b.o B u ZN q.o v Zh Zh ?_;intro m cap D i d e;have l:=hZ i;have j:=hZ d;have k:=hZ e;clear i d e);exact xK
 |some a=>
  obtain⟨g,o,C⟩:=a
  obtain⟨rfl,rfl⟩:o=0/\C=nN:=by
   exact xM
  by_cases I:c=cs.length
  all_goals
   go_enter func131,ntmps131;go_wp2_with(refine AM rfl _ _ _ rfl 67 .nilIface 16 underlying156 Jg rfl (nS (nM ⟨g,0,nN⟩) cs.length c) cs ZN b.o B u ZN q.o v Zj Zj ?_;intro m cap D i d e;have l:=hZ i;have j:=hZ d;have k:=hZ e;clear i d e);exact xK
theorem IE{b:Nat}{cs:List Vl}{T:Ti}(h:Ac w b cs T):w.shape? b=nM (T,cs.length):=by
 unfold Ac at h;unfold World.shape?;rw[h];simp
theorem xG(h:p:=by simp[Act.eval,Act.put]):p:=h
theorem xH(h:p:=by simp only[Nat.min_def,Qj,List.length_nil];split<;>omega):p:=h
theorem xN(h:p:=by rw[IntKind.wrap_i64];omega):p:=h
theorem xQ(h:p:=by rw[n];exact l.kept (Chg.setCells (bs:=[g]) Zh _ _ _ ((Chg.refl w [g]).drew)) (by simpa using F)):p:=h
theorem xW(h:p:=by rw[n];exact Chg.setCells Zh _ _ _ (Chg.refl w [g]).drew):p:=h
theorem wj(h:p:=by rw[E];simp only[Nat.min_def];split<;>omega):p:=h
theorem wl(h:p:=by rw[n];exact Ac.setCells _ _ _ _ (o.drew) Zj):p:=h
theorem JL(g c i:Nat)(u:Vl)(B:Nat)(cs:List Vl)(w:Wl)(m:AK w (nS (nM ⟨g,0,nN⟩) cs.length c) 9 cs)(l:Ac w B [u] 9)(F:B≠g)(P:u.oneCell'=true)(J:∀v∈cs,v.oneCell'=true)(hi:i<cs.length)(O:cs.length+1<=c):
  Cl prog 130 #[nS (nM ⟨g,0,nN⟩) cs.length c,nI nX i,nS (nM ⟨B,0,nN⟩) 1 1] w (E1 w (nS (nM ⟨g,0,nN⟩) cs.length c) 9 cs.length (cs.insertIdx i u)):=by
 have S:=m.cap63;obtain⟨k,o,_,k3,k4,Q,R⟩:=m.blk;have G:(prog.info? 9).map (·.size)=nM 1:=Yb
 have N:∀s p,(callFunc 165 #[nS (nM ⟨B,0,nN⟩) 1 1,nS (nM ⟨g,i+1,nN⟩) s p]).run prog w= .ok (.value (.bool false)) w:=fun s p=>by
  rw[run_callFunc_extern func165 Yb Yb Yb (e:=Extern.SlicesOverlaps.overlaps #[27,27] #[4]) Yb,
   Lib.run_overlaps_apart w 27 4 9 underlying27 1 sizeOf9 ⟨B,0,nN⟩ ⟨g,i+1,nN⟩ 1 1 s p F 9 9 1 k.length (IE l) (IE o) Zj (l.frozen 0) (l.frozen 1)]
  rfl
 have E:(cs.drop i).length=cs.length-i:=Qm;have A:∀j v,cs[j]? =nM v->w.cell? ⟨g,j,nN⟩=nM v:=fun j v f=>m.cell rfl j v f
 have D:∀d b t,(Builtin.copy_ #[27,27] d #[nS (nM ⟨g,i+1,nN⟩) (cs.length-i) b,nS (nM ⟨g,i,nN⟩) (cs.length+1-i) t]).run prog w.drew= .ok (goInt (cs.drop i).length) (w.drew.setCells g (i+1) (cs.drop i)):=fun d b t=>
  run_copy_cells w.drew _ _ d 9 g (i+1) (cs.length-i) b ⟨g,i,nN⟩ (cs.length+1-i) t (cs.drop i) underlying27 G wj
   (fun j v a=>by rw[Addr.add_lit];exact A (i+j) v (by rwa[List.getElem?_drop]at a))
   (fun j a=>by rw[show w.drew.cell? ⟨g,i+1+j,nN⟩=w.cell? ⟨g,i+1+j,nN⟩from rfl,o.cell,Q9 Zj];rfl) (fun j a=>o.frozen _) (fun v f=>J v (List.mem_of_mem_drop f))
 obtain⟨h,n⟩:=Ue (w.drew.setCells g (i+1) (cs.drop i));have r:Ac h g (k.take (i+1)++(cs.drop i++k.drop (i+1+(cs.drop i).length))) 9:=wl
 have M:(k.take (i+1)++(cs.drop i++k.drop (i+1+(cs.drop i).length))).length=c:=by simp only[Qk,Ql,Qm];omega
 have y:Ac h B [u] 9:=xQ
 have L:∀(W:Wl),(∀x,W.cell? x=h.cell? x)->(∀x,W.frozen? x=h.frozen? x)->∀d b,(Builtin.copy_ #[27,27] d #[nS (nM ⟨g,i,nN⟩) (cs.length+1-i) b,nS (nM ⟨B,0,nN⟩) 1 1]).run prog W= .ok (goInt [u].length) (W.setCells g i [u]):=fun W z K d b=>
  run_copy_cells W _ _ d 9 g i (cs.length+1-i) b ⟨B,0,nN⟩ 1 1 [u] underlying27 G xH
   (fun j v a=>by rw[Addr.add_lit,z,y.cell,Nat.zero_add];exact a)
   (fun j a=>by simp only[Qj,List.length_nil]at a;rw[z,r.cell,Q9 Zj];rfl) (fun j a=>by rw[K];exact r.frozen _) (fun v f=>by simp at f;subst f;exact P)
 have q:=(show AK w.drew _ _ _ from m).shift (v:=u) (Nat.le_of_lt hi) O;rw[<-n]at q D;have I:=hZ q;have C:Chg w (h.setCells g i [u]) [g]:=Chg.setCells Zh _ _ _ xW;have H:=hZ C;have aa:IntKind.i64.wrap ((i:Int)+1)=(i:Int)+1:=xN
 have T:(0:Int)<=(i:Int)+1:=Zj;have Z:((i:Int)+1).toNat=i+1:=Zj;have U:¬(c=i+1):=Zj;have V:(i:Int)<=(cs.length:Int)+1:=Zj;have X:¬(c=i):=Zj;have ab:¬((i:Int)=(cs.length:Int)):=Zj;have Y:i<=cs.length:=Zj;clear r y M q C A E R Q o m l n;go_enter func130,ntmps130;go_wp2_with(simp only[N]);go_region_law(refine step_copy_runI rfl _ _ 27 27 rfl _ _ xG xG (D _ _ _) ?_);go_wp2_with(at_builtin;refine wpList_copy_runI _ rfl _ _ 27 27 rfl _ _ rfl rfl (L _ (fun _=>rfl) (fun _=>rfl) _ _) ?_);go_ret;exact⟨g,c,rfl,I.o,H.o,.inl rfl⟩
theorem Lq(g c i:Nat)(u:Vl)(B:Nat)(cs:List Vl)(w:Wl)(m:AK w (nS (nM ⟨g,0,nN⟩) cs.length c) 67 cs)(l:Ac w B [u] 67)(F:B≠g)(P:u.oneCell'=true)(J:∀v∈cs,v.oneCell'=true)(hi:i<cs.length)(O:cs.length+1<=c):
  Cl prog 131 #[nS (nM ⟨g,0,nN⟩) cs.length c,nI nX i,nS (nM ⟨B,0,nN⟩) 1 1] w (E1 w (nS (nM ⟨g,0,nN⟩) cs.length c) 67 cs.length (cs.insertIdx i u)):=by
 have S:=m.cap63;obtain⟨k,o,_,k3,k4,Q,R⟩:=m.blk;have G:(prog.info? 67).map (·.size)=nM 1:=Yb
 have N:∀s p,(callFunc 167 #[nS (nM ⟨B,0,nN⟩) 1 1,nS (nM ⟨g,i+1,nN⟩) s p]).run prog w= .ok (.value (.bool false)) w:=fun s p=>by
  rw[run_callFunc_extern func167 Yb Yb Yb (e:=Extern.SlicesOverlaps.overlaps #[156,156] #[4]) Yb,
   Lib.run_overlaps_apart w 156 4 67 underlying156 1 sizeOf67 ⟨B,0,nN⟩ ⟨g,i+1,nN⟩ 1 1 s p F 67 67 1 k.length (IE l) (IE o) Zj (l.frozen 0) (l.frozen 1)]
  rfl
 have E:(cs.drop i).length=cs.length-i:=Qm;have A:∀j v,cs[j]? =nM v->w.cell? ⟨g,j,nN⟩=nM v:=fun j v f=>m.cell rfl j v f
 have D:∀d b t,(Builtin.copy_ #[156,156] d #[nS (nM ⟨g,i+1,nN⟩) (cs.length-i) b,nS (nM ⟨g,i,nN⟩) (cs.length+1-i) t]).run prog w.drew= .ok (goInt (cs.drop i).length) (w.drew.setCells g (i+1) (cs.drop i)):=fun d b t=>
  run_copy_cells w.drew _ _ d 67 g (i+1) (cs.length-i) b ⟨g,i,nN⟩ (cs.length+1-i) t (cs.drop i) underlying156 G wj
   (fun j v a=>by rw[Addr.add_lit];exact A (i+j) v (by rwa[List.getElem?_drop]at a))
   (fun j a=>by rw[show w.drew.cell? ⟨g,i+1+j,nN⟩=w.cell? ⟨g,i+1+j,nN⟩from rfl,o.cell,Q9 Zj];rfl) (fun j a=>o.frozen _) (fun v f=>J v (List.mem_of_mem_drop f))
 obtain⟨h,n⟩:=Ue (w.drew.setCells g (i+1) (cs.drop i));have r:Ac h g (k.take (i+1)++(cs.drop i++k.drop (i+1+(cs.drop i).length))) 67:=wl
 have M:(k.take (i+1)++(cs.drop i++k.drop (i+1+(cs.drop i).length))).length=c:=by simp only[Qk,Ql,Qm];omega
 have y:Ac h B [u] 67:=xQ
 have L:∀(W:Wl),(∀x,W.cell? x=h.cell? x)->(∀x,W.frozen? x=h.frozen? x)->∀d b,(Builtin.copy_ #[156,156] d #[nS (nM ⟨g,i,nN⟩) (cs.length+1-i) b,nS (nM ⟨B,0,nN⟩) 1 1]).run prog W= .ok (goInt [u].length) (W.setCells g i [u]):=fun W z K d b=>
  run_copy_cells W _ _ d 67 g i (cs.length+1-i) b ⟨B,0,nN⟩ 1 1 [u] underlying156 G xH
   (fun j v a=>by rw[Addr.add_lit,z,y.cell,Nat.zero_add];exact a)
   (fun j a=>by simp only[Qj,List.length_nil]at a;rw[z,r.cell,Q9 Zj];rfl) (fun j a=>by rw[K];exact r.frozen _) (fun v f=>by simp at f;subst f;exact P)
 have q:=(show AK w.drew _ _ _ from m).shift (v:=u) (Nat.le_of_lt hi) O;rw[<-n]at q D;have I:=hZ q;have C:Chg w (h.setCells g i [u]) [g]:=Chg.setCells Zh _ _ _ xW;have H:=hZ C;have aa:IntKind.i64.wrap ((i:Int)+1)=(i:Int)+1:=xN
 have T:(0:Int)<=(i:Int)+1:=Zj;have Z:((i:Int)+1).toNat=i+1:=Zj;have U:¬(c=i+1):=Zj;have V:(i:Int)<=(cs.length:Int)+1:=Zj;have X:¬(c=i):=Zj;have ab:¬((i:Int)=(cs.length:Int)):=Zj;have Y:i<=cs.length:=Zj;clear r y M q C A E R Q o m l n;go_enter func131,ntmps131;go_wp2_with(simp only[N]);go_region_law(refine step_copy_runI rfl _ _ 156 156 rfl _ _ xG xG (D _ _ _) ?_);go_wp2_with(at_builtin;refine wpList_copy_runI _ rfl _ _ 156 156 rfl _ _ rfl rfl (L _ (fun _=>rfl) (fun _=>rfl) _ _) ?_);go_ret;exact⟨g,c,rfl,I.o,H.o,.inl rfl⟩
theorem G8(z:Vl)(a:z.cells=#[z])(k:Nat):(Builtin.zeroCells z.cells k).toList=List.replicate k z:=by
 rw[a];unfold Builtin.zeroCells;simp[Nat.mod_one,List.map_const']
theorem xE(h:p:=by
 rw[al]
 exact run_firstCells_some w.drew 1 i ⟨g,0,nN⟩ i c (cs.take i) (by rw[Ql];omega) (fun j v b=>by
  rw[Addr.add_lit,Nat.zero_add];rw[List.getElem?_take]at b;split at b
  .exact C j v b
  .cases b)):p:=h
theorem wn(h:p:=by simp;omega):p:=h
theorem xI(h:p:=by have hc:Chg a (a.setCells w.heap.size i [u]) [w.heap.size]:=Chg.setCells Zh _ _ _ cR;rw[hc.cell (p:=⟨g,j,nN⟩) (World.block_lt_of_cell? a _ (z j v h)) wn];exact z j v h):p:=h
theorem xT(h:p:=by apply Array.toList_inj.1;rw[Array.toList_append,Array.toList_append,G8 _ rfl,G8 _ rfl,F];simp):p:=h
theorem xU(h:p:=by rw[D]at h;rw[show(cs.length:Int)+1-(i:Int)=((cs.length+1-i:Nat):Int)from by omega];exact h):p:=h
theorem x7(h:p:=by go_wp2;go_ret;exact⟨w.heap.size,G,rfl,J.o,I.o.none _,.inr (Q8 _)⟩):p:=h
theorem x8(h:p:=by rw[s];exact(((Chg.refl w []).drew).alloc _).keeps h):p:=h
theorem x9(h:p:=by simp only[Qk,Ql,Qm,Qj,List.length_nil]at S|-;omega):p:=h
theorem wd(h:p:=by simp only[<-drew_setCells];exact PQ (w:=w) (Nat.le_of_lt hi) X ag t):p:=h
theorem wh(h:p:=by rw[F];simp only[Qk,List.length_replicate];omega):p:=h
theorem wk(h:p:=by rw[Q];simp only[Nat.min_def];split<;>omega):p:=h
theorem wo(h:p:=by simp only[Qj,List.length_nil];omega):p:=h
theorem ws(h:p:=by rw[V,D];exact growslice_fits hr Zj):p:=h
theorem Kl(g c i:Nat)(u:Vl)(B:Nat)(cs:List Vl)(w:Wl)(m:AK w (nS (nM ⟨g,0,nN⟩) cs.length c) 9 cs)(K:Ac w B [u] 9)(hu:u.oneCell'=true)(aa:∀v∈cs,v.oneCell'=true)(hi:i<cs.length)(hr:c<cs.length+1)(hn:cs.length<=4294967296):
  Cl prog 130 #[nS (nM ⟨g,0,nN⟩) cs.length c,nI nX i,nS (nM ⟨B,0,nN⟩) 1 1] w (E1 w (nS (nM ⟨g,0,nN⟩) cs.length c) 9 cs.length (cs.insertIdx i u)):=by
 have am:=m.cap63;have av:=m.capLe.2;have C:∀j v,cs[j]? =nM v->w.cell? ⟨g,j,nN⟩=nM v:=fun j v l=>m.cell rfl j v l;obtain⟨Y,ai,ak,al,V⟩:=info_parts GP;have U:(prog.info? 9).map (·.size)=nM 1:=Yb;have Q:(cs.drop i).length=cs.length-i:=Qm
 have T:(Builtin.firstCells Y.size i (nS (nM ⟨g,0,nN⟩) i c)).run prog w.drew= .ok (cs.take i).toArray w.drew:=by
  exact xE
 have D:i+(cs.length+1-i)=cs.length+1:=Zj
 have E:∀e,(Builtin.append_ #[27,3] e #[nS (nM ⟨g,0,nN⟩) i c,nI nX ((cs.length:Int)+1-(i:Int))]).run prog w=
   .ok (nS (nM ⟨w.heap.size,0,nN⟩) (cs.length+1) (grownCap w (cs.length+1) c 9)) (w.drew.alloc (nC ((cs.take i).toArray++Builtin.zeroCells (Ho:Vl).cells (cs.length+1-i)++Builtin.zeroCells (Ho:Vl).cells (grownCap w (cs.length+1) c 9-(cs.length+1))) 9)):=fun e=>by
  have h:=Lib.run_append_grow_zeros w 27 3 e 9 Y _ nX nX underlying27 underlying3 ai ak (nM ⟨g,0,nN⟩) i c (cs.take i) T (cs.length+1-i) Zj Zj Zj Zj (by rw[V];omega) ws;exact xU
 obtain⟨G,q⟩:=Ue (grownCap w (cs.length+1) c 9);have ag:cs.length+1<=G:=by rw[q];exact grownCap_ge w _ _ _
 have t:G<=maxLen:=by rw[q];exact grownCap_le_maxLen w (cs.length+1) c 9 (by unfold maxLen;omega)
 obtain⟨d,F⟩:=Ue (List.replicate (cs.length+1-i) (Ho:Vl)++List.replicate (G-(cs.length+1)) (Ho:Vl):List Vl);have X:d.length+i=G:=wh
 have n:(cs.take i).toArray++Builtin.zeroCells (Ho:Vl).cells (cs.length+1-i)++Builtin.zeroCells (Ho:Vl).cells (G-(cs.length+1))=(cs.take i++d).toArray:=by
  exact xT
 rw[<-q,n]at E;obtain⟨a,s⟩:=Ue (w.drew.alloc (nC (cs.take i++d).toArray 9));have r:Ac a w.heap.size (cs.take i++d) 9:=by rw[s];exact Ac.new w.drew _ _
 have L:Ac a B [u] 9:=by rw[s];exact(K.drew).alloc _
 have S:(cs.take i++d).length=G:=by rw[Qk,Ql];omega
 have z:∀j v,w.cell? ⟨g,j,nN⟩=nM v->a.cell? ⟨g,j,nN⟩=nM v:=fun j v h=>x8
 have O:∀(W:Wl),(∀x,W.cell? x=a.cell? x)->(∀x,W.frozen? x=a.frozen? x)->∀e k,(Builtin.copy_ #[27,27] e #[nS (nM ⟨w.heap.size,i,nN⟩) (cs.length+1-i) k,nS (nM ⟨B,0,nN⟩) 1 1]).run prog W= .ok (goInt [u].length) (W.setCells w.heap.size i [u]):=fun W o A e k=>
  run_copy_cells W _ _ e 9 w.heap.size i (cs.length+1-i) k ⟨B,0,nN⟩ 1 1 [u] underlying27 U xH
   (fun j v b=>by rw[Addr.add_lit,o,L.cell,Nat.zero_add];exact b)
   (fun j b=>by simp only[Qj,List.length_nil]at b;rw[o,r.cell,Q9 Zj];rfl) (fun j b=>by rw[A];exact r.frozen _) (fun v l=>by simp at l;subst l;exact hu)
 have y:Ac (a.setCells w.heap.size i [u]) w.heap.size ((cs.take i++d).take i++([u]++(cs.take i++d).drop (i+[u].length))) 9:=Ac.setCells _ _ _ _ r wo;have aj:((cs.take i++d).take i++([u]++(cs.take i++d).drop (i+[u].length))).length=G:=x9
 have aw:g<w.heap.size:=m.lt rfl
 have M:∀j v,w.cell? ⟨g,j,nN⟩=nM v->(a.setCells w.heap.size i [u]).cell? ⟨g,j,nN⟩=nM v:=fun j v h=>by
  exact xI
 have P:∀(W:Wl),(∀x,W.cell? x=(a.setCells w.heap.size i [u]).cell? x)->(∀x,W.frozen? x=(a.setCells w.heap.size i [u]).frozen? x)->∀e k H,(Builtin.copy_ #[27,27] e #[nS (nM ⟨w.heap.size,i+1,nN⟩) (cs.length-i) k,nS (nM ⟨g,i,nN⟩) (cs.length-i) H]).run prog W= .ok (goInt (cs.drop i).length) (W.setCells w.heap.size (i+1) (cs.drop i)):=fun W o A e k H=>
  run_copy_cells W _ _ e 9 w.heap.size (i+1) (cs.length-i) k ⟨g,i,nN⟩ (cs.length-i) H (cs.drop i) underlying27 U wk
   (fun j v b=>by rw[Addr.add_lit,o];exact M _ v (C (i+j) v (by rwa[List.getElem?_drop]at b)))
   (fun j b=>by rw[o,y.cell,Q9 Zj];rfl) (fun j b=>by rw[A];exact y.frozen _) (fun v l=>aa v (List.mem_of_mem_drop l))
 have R:AK (((w.alloc (nC (cs.take i++d).toArray 9)).drew.setCells w.heap.size i [u]).drew.setCells w.heap.size (i+1) (cs.drop i)) (nS (nM ⟨w.heap.size,0,nN⟩) (cs.length+1) G) 9 (cs.insertIdx i u):=by
  exact wd
 have N:Chg w (((w.alloc (nC (cs.take i++d).toArray 9)).drew.setCells w.heap.size i [u]).drew.setCells w.heap.size (i+1) (cs.drop i)) []:=
  Chg.setCells (fun h=>Zj) _ _ _ (Chg.setCells (fun h=>Zj) _ _ _ (((Chg.refl w []).alloc _).drew)).drew
 have J:=hZ R;have I:=hZ N;have an:G<=9223372036854775807:=by unfold maxLen at t;omega
 have ao:¬(G=i):=Zj;have ap:¬(G=i+1):=Zj;have au:¬(c=i):=Zj;have az:IntKind.i64.wrap ((i:Int)+1)=(i:Int)+1:=xN
 have aq:(0:Int)<=(i:Int)+1:=Zj;have ax:i<=cs.length:=Zj;have ay:((i:Int)+1).toNat=i+1:=Zj;have ar:(i:Int)<=(cs.length:Int):=Zj;have aA:¬((i:Int)=(cs.length:Int)):=Zj;have aB:(c:Int)<(cs.length:Int)+1:=Zj;obtain⟨Z,ah⟩:=Ue (a.setCells w.heap.size i [u]);clear m K C T D n X F r L S z y aj M R N t q Q;subst s;clear ah Z;obtain⟨f,n⟩:=Ue ((cs.take i++d).toArray:Array Vl);rw[<-n]at E O P J I;clear n;have ab:∀x,((w.alloc (nC f 9)).drew).cell? x=(w.drew.alloc (nC f 9)).cell? x:=fun x=>rfl;have ad:∀x,((w.alloc (nC f 9)).drew).frozen? x=(w.drew.alloc (nC f 9)).frozen? x:=fun x=>rfl;have ae:∀x,(((w.alloc (nC f 9)).drew.setCells w.heap.size i [u]).drew).cell? x=((w.drew.alloc (nC f 9)).setCells w.heap.size i [u]).cell? x:=fun x=>rfl;have af:∀x,(((w.alloc (nC f 9)).drew.setCells w.heap.size i [u]).drew).frozen? x=((w.drew.alloc (nC f 9)).setCells w.heap.size i [u]).frozen? x:=fun x=>rfl;go_enter func130,ntmps130
 go_wp2_with(first
  |(at_builtin;refine Lib.wpList_append_run _ rfl _ _ _ _ rfl _ _ rfl rfl _ _ (E _) ?_)
  |(at_builtin;refine wpList_copy_runI _ rfl _ _ 27 27 rfl _ _ rfl rfl (O _ ab ad _ _) ?_))
 go_region_law(refine step_copy_runI rfl _ _ 27 27 rfl (nS (nM ⟨w.heap.size,i+1,nN⟩) (cs.length-i) (G-(i+1))) (nS (nM ⟨g,i,nN⟩) (cs.length-i) (c-i)) xG xG (P _ ae af 3 (G-(i+1)) (c-i)) ?_);exact x7
theorem QS(sv u:Vl)(B i:Nat)(cs:List Vl)(w:Wl)(a:AK w sv 9 cs)(b:Ac w B [u] 9)(j:∀g,sv.ownBlock=nM g->B≠g)(d:u.oneCell'=true)(e:∀v∈cs,v.oneCell'=true)(hi:i<=cs.length)(h:cs.length<=4294967296):
  Cl prog 130 #[sv,nI nX i,nS (nM ⟨B,0,nN⟩) 1 1] w (E1 w sv 9 cs.length (cs.insertIdx i u)):=by
 by_cases f:i=cs.length
 .subst f;exact Lr sv u B cs w a b d h
 .rcases a.one with⟨_,rfl⟩|⟨g,c,rfl,_⟩
  .simp at hi f;omega
  .by_cases k:cs.length+1<=c
   .exact JL g c i u B cs w a b (j g rfl) d e Zj k
   .exact Kl g c i u B cs w a b d e Zj Zj h
theorem Ma(g c i:Nat)(u:Vl)(B:Nat)(cs:List Vl)(w:Wl)(m:AK w (nS (nM ⟨g,0,nN⟩) cs.length c) 67 cs)(K:Ac w B [u] 67)(hu:u.oneCell'=true)(aa:∀v∈cs,v.oneCell'=true)(hi:i<cs.length)(hr:c<cs.length+1)(hn:cs.length<=4294967296):
  Cl prog 131 #[nS (nM ⟨g,0,nN⟩) cs.length c,nI nX i,nS (nM ⟨B,0,nN⟩) 1 1] w (E1 w (nS (nM ⟨g,0,nN⟩) cs.length c) 67 cs.length (cs.insertIdx i u)):=by
 have am:=m.cap63;have av:=m.capLe.2;have C:∀j v,cs[j]? =nM v->w.cell? ⟨g,j,nN⟩=nM v:=fun j v l=>m.cell rfl j v l;obtain⟨Y,ai,ak,al,V⟩:=info_parts Jg;have U:(prog.info? 67).map (·.size)=nM 1:=Yb;have Q:(cs.drop i).length=cs.length-i:=Qm
 have T:(Builtin.firstCells Y.size i (nS (nM ⟨g,0,nN⟩) i c)).run prog w.drew= .ok (cs.take i).toArray w.drew:=by
  exact xE
 have D:i+(cs.length+1-i)=cs.length+1:=Zj
 have E:∀e,(Builtin.append_ #[156,3] e #[nS (nM ⟨g,0,nN⟩) i c,nI nX ((cs.length:Int)+1-(i:Int))]).run prog w=
   .ok (nS (nM ⟨w.heap.size,0,nN⟩) (cs.length+1) (grownCap w (cs.length+1) c 67)) (w.drew.alloc (nC ((cs.take i).toArray++Builtin.zeroCells (.nilIface:Vl).cells (cs.length+1-i)++Builtin.zeroCells (.nilIface:Vl).cells (grownCap w (cs.length+1) c 67-(cs.length+1))) 67)):=fun e=>by
  have h:=Lib.run_append_grow_zeros w 156 3 e 67 Y _ nX nX underlying156 underlying3 ai ak (nM ⟨g,0,nN⟩) i c (cs.take i) T (cs.length+1-i) Zj Zj Zj Zj (by rw[V];omega) ws;exact xU
 obtain⟨G,q⟩:=Ue (grownCap w (cs.length+1) c 67);have ag:cs.length+1<=G:=by rw[q];exact grownCap_ge w _ _ _
 have t:G<=maxLen:=by rw[q];exact grownCap_le_maxLen w (cs.length+1) c 67 (by unfold maxLen;omega)
 obtain⟨d,F⟩:=Ue (List.replicate (cs.length+1-i) (.nilIface:Vl)++List.replicate (G-(cs.length+1)) (.nilIface:Vl):List Vl);have X:d.length+i=G:=wh
 have n:(cs.take i).toArray++Builtin.zeroCells (.nilIface:Vl).cells (cs.length+1-i)++Builtin.zeroCells (.nilIface:Vl).cells (G-(cs.length+1))=(cs.take i++d).toArray:=by
  exact xT
 rw[<-q,n]at E;obtain⟨a,s⟩:=Ue (w.drew.alloc (nC (cs.take i++d).toArray 67));have r:Ac a w.heap.size (cs.take i++d) 67:=by rw[s];exact Ac.new w.drew _ _
 have L:Ac a B [u] 67:=by rw[s];exact(K.drew).alloc _
 have S:(cs.take i++d).length=G:=by rw[Qk,Ql];omega
 have z:∀j v,w.cell? ⟨g,j,nN⟩=nM v->a.cell? ⟨g,j,nN⟩=nM v:=fun j v h=>x8
 have O:∀(W:Wl),(∀x,W.cell? x=a.cell? x)->(∀x,W.frozen? x=a.frozen? x)->∀e k,(Builtin.copy_ #[156,156] e #[nS (nM ⟨w.heap.size,i,nN⟩) (cs.length+1-i) k,nS (nM ⟨B,0,nN⟩) 1 1]).run prog W= .ok (goInt [u].length) (W.setCells w.heap.size i [u]):=fun W o A e k=>
  run_copy_cells W _ _ e 67 w.heap.size i (cs.length+1-i) k ⟨B,0,nN⟩ 1 1 [u] underlying156 U xH
   (fun j v b=>by rw[Addr.add_lit,o,L.cell,Nat.zero_add];exact b)
   (fun j b=>by simp only[Qj,List.length_nil]at b;rw[o,r.cell,Q9 Zj];rfl) (fun j b=>by rw[A];exact r.frozen _) (fun v l=>by simp at l;subst l;exact hu)
 have y:Ac (a.setCells w.heap.size i [u]) w.heap.size ((cs.take i++d).take i++([u]++(cs.take i++d).drop (i+[u].length))) 67:=Ac.setCells _ _ _ _ r wo;have aj:((cs.take i++d).take i++([u]++(cs.take i++d).drop (i+[u].length))).length=G:=x9
 have aw:g<w.heap.size:=m.lt rfl
 have M:∀j v,w.cell? ⟨g,j,nN⟩=nM v->(a.setCells w.heap.size i [u]).cell? ⟨g,j,nN⟩=nM v:=fun j v h=>by
  exact xI
 have P:∀(W:Wl),(∀x,W.cell? x=(a.setCells w.heap.size i [u]).cell? x)->(∀x,W.frozen? x=(a.setCells w.heap.size i [u]).frozen? x)->∀e k H,(Builtin.copy_ #[156,156] e #[nS (nM ⟨w.heap.size,i+1,nN⟩) (cs.length-i) k,nS (nM ⟨g,i,nN⟩) (cs.length-i) H]).run prog W= .ok (goInt (cs.drop i).length) (W.setCells w.heap.size (i+1) (cs.drop i)):=fun W o A e k H=>
  run_copy_cells W _ _ e 67 w.heap.size (i+1) (cs.length-i) k ⟨g,i,nN⟩ (cs.length-i) H (cs.drop i) underlying156 U wk
   (fun j v b=>by rw[Addr.add_lit,o];exact M _ v (C (i+j) v (by rwa[List.getElem?_drop]at b)))
   (fun j b=>by rw[o,y.cell,Q9 Zj];rfl) (fun j b=>by rw[A];exact y.frozen _) (fun v l=>aa v (List.mem_of_mem_drop l))
 have R:AK (((w.alloc (nC (cs.take i++d).toArray 67)).drew.setCells w.heap.size i [u]).drew.setCells w.heap.size (i+1) (cs.drop i)) (nS (nM ⟨w.heap.size,0,nN⟩) (cs.length+1) G) 67 (cs.insertIdx i u):=by
  exact wd
 have N:Chg w (((w.alloc (nC (cs.take i++d).toArray 67)).drew.setCells w.heap.size i [u]).drew.setCells w.heap.size (i+1) (cs.drop i)) []:=
  Chg.setCells (fun h=>Zj) _ _ _ (Chg.setCells (fun h=>Zj) _ _ _ (((Chg.refl w []).alloc _).drew)).drew
 have J:=hZ R;have I:=hZ N;have an:G<=9223372036854775807:=by unfold maxLen at t;omega
 have ao:¬(G=i):=Zj;have ap:¬(G=i+1):=Zj;have au:¬(c=i):=Zj;have az:IntKind.i64.wrap ((i:Int)+1)=(i:Int)+1:=xN
 have aq:(0:Int)<=(i:Int)+1:=Zj;have ax:i<=cs.length:=Zj;have ay:((i:Int)+1).toNat=i+1:=Zj;have ar:(i:Int)<=(cs.length:Int):=Zj;have aA:¬((i:Int)=(cs.length:Int)):=Zj;have aB:(c:Int)<(cs.length:Int)+1:=Zj;obtain⟨Z,ah⟩:=Ue (a.setCells w.heap.size i [u]);clear m K C T D n X F r L S z y aj M R N t q Q;subst s;clear ah Z;obtain⟨f,n⟩:=Ue ((cs.take i++d).toArray:Array Vl);rw[<-n]at E O P J I;clear n;have ab:∀x,((w.alloc (nC f 67)).drew).cell? x=(w.drew.alloc (nC f 67)).cell? x:=fun x=>rfl;have ad:∀x,((w.alloc (nC f 67)).drew).frozen? x=(w.drew.alloc (nC f 67)).frozen? x:=fun x=>rfl;have ae:∀x,(((w.alloc (nC f 67)).drew.setCells w.heap.size i [u]).drew).cell? x=((w.drew.alloc (nC f 67)).setCells w.heap.size i [u]).cell? x:=fun x=>rfl;have af:∀x,(((w.alloc (nC f 67)).drew.setCells w.heap.size i [u]).drew).frozen? x=((w.drew.alloc (nC f 67)).setCells w.heap.size i [u]).frozen? x:=fun x=>rfl;go_enter func131,ntmps131
 go_wp2_with(first
  |(at_builtin;refine Lib.wpList_append_run _ rfl _ _ _ _ rfl _ _ rfl rfl _ _ (E _) ?_)
  |(at_builtin;refine wpList_copy_runI _ rfl _ _ 156 156 rfl _ _ rfl rfl (O _ ab ad _ _) ?_))
 go_region_law(refine step_copy_runI rfl _ _ 156 156 rfl (nS (nM ⟨w.heap.size,i+1,nN⟩) (cs.length-i) (G-(i+1))) (nS (nM ⟨g,i,nN⟩) (cs.length-i) (c-i)) xG xG (P _ ae af 3 (G-(i+1)) (c-i)) ?_);exact x7
theorem N5(sv u:Vl)(B i:Nat)(cs:List Vl)(w:Wl)(a:AK w sv 67 cs)(b:Ac w B [u] 67)(j:∀g,sv.ownBlock=nM g->B≠g)(d:u.oneCell'=true)(e:∀v∈cs,v.oneCell'=true)(hi:i<=cs.length)(h:cs.length<=4294967296):
  Cl prog 131 #[sv,nI nX i,nS (nM ⟨B,0,nN⟩) 1 1] w (E1 w sv 67 cs.length (cs.insertIdx i u)):=by
 by_cases f:i=cs.length
 .subst f;exact NA sv u B cs w a b d h
 .rcases a.one with⟨_,rfl⟩|⟨g,c,rfl,_⟩
  .simp at hi f;omega
  .by_cases k:cs.length+1<=c
   .exact Lq g c i u B cs w a b (j g rfl) d e Zj k
   .exact Ma g c i u B cs w a b d e Zj Zj h
end
section
open _root_.Go.Proofs.Tryz
open Go Go.Shelf Go.RowKit Go.Lib Go.Sort Tree Ptr
variable{g:Nat}{G:Nat->Prop}{w:Wl}
abbrev UF:=Int×BY×BY×Option Addr×Nat×Nat
variable{d:List UF}
def D0:UF->List Vl
 |(k,p,f,a,n,c)=>[nI nX k,nG p,nG f,nS a n c]
theorem Fg(x:UF):(D0 x).length=4:=rfl
theorem Ws:∀x:UF,∀v∈D0 x,v.oneCell'=true:=by
 rintro⟨k,p,f,a,n,c⟩ v b;simp only[D0,Qh,List.not_mem_nil,or_false]at b;rcases b with rfl|rfl|rfl|rfl<;>rfl
theorem QG:∀(d:List UF) (t:Nat),(d.flatMap D0)[t]? =(d[t/4]?).bind fun x=>(D0 x)[t % 4]?
 |[],t=>Zh
 |x::d,t=>by
  rw[List.flatMap_cons];by_cases h:t<4
  .rw[List.getElem?_append_left (by rw[Fg];exact h)];have a:t/4=0:=Zj;have b:t % 4=t:=Zj;rw[a,b];rfl
  .rw[List.getElem?_append_right (by rw[Fg];omega),Fg,QG d];have a:t/4=(t-4)/4+1:=Zj;have b:t % 4=(t-4) % 4:=Zj;rw[a,b];rfl
theorem NY(d:List UF):(d.flatMap D0).length=d.length*4:=by
 induction d with
 |nil=>rfl
 |cons x d a=>rw[List.flatMap_cons,Qk,Fg,a,Qj];omega
theorem NX(d:List UF)(t:Nat)(h:t<d.length*4):(d.flatMap D0)[t]? =nM ((D0 d.toArray[t/4]!)[t % 4]!):=by
 have hi:t/4<d.toArray.size:=xR
 have a:t/4<d.length:=Zj;have b:d.toArray[t/4]! =d[t/4]'a:=by rw[getElem!_pos d.toArray (t/4) hi];rfl
 rw[QG,Q9 a,Option.bind_some,b,List.getElem!_eq_getElem?_getD,Q9 (by rw[Fg];omega)];rfl
theorem SX(h:HoldsK D0 4 w g 0 d.toArray):∀i v,(d.flatMap D0)[i]? =nM v->w.cell? ⟨g,0+i,nN⟩=nM v:=by
 intro i v a;have e:i<d.length*4:=by have:=(Qc.1 a).1;rwa[NY]at this
 rw[NX d i e]at a;have b:=(HoldsK.cell h (i:=i/4) (c:=i % 4) xR (Nat.mod_lt _ ZM)).1;rw[show 0+i/4*4+i % 4=0+i from by omega]at b;rw[b,a]
theorem UZ{b:List Vl}{T:Ti}(c:Ac w g b T)(e:b.take (d.length*4)=d.flatMap D0):HoldsK D0 4 w g 0 d.toArray:=fun j a=>by
 rw[size_flatK,List.size_toArray]at a;refine⟨?_,c.frozen _⟩;rw[get_flatK _ _ _ _ (by rw[List.size_toArray];exact a),c.cell,Nat.zero_add];have:=NX d j a;rw[<-e,List.getElem?_take,Qr a]at this;exact this
theorem Ba.blk{n c sz:Nat}{e:Ti}{xs:List Vl}(h:Ba w (nS (nM ⟨g,0,nN⟩) n c) e sz n xs):∃b:List Vl,Ac w g b e/\n<=c/\b.take (n*sz)=xs:=by
 rcases h.2 with⟨d,_⟩|⟨l,cap,b,a,_,k,f,m,o,i⟩
 .injection d with d;cases d
 .injection a with a p j
  injection a with a
  injection a with a
  subst a;subst j;exact⟨b.toList,by unfold Ac;simpa using k,f,i⟩
theorem YP(d:List UF)(g c:Nat)(w:Wl)(h:Ba w (nS (nM ⟨g,0,nN⟩) d.length c) 42 4 d.length (d.flatMap D0))(r:d.length<=4294967296):
  Cl prog 28 #[nS (nM ⟨g,0,nN⟩) d.length c] w fun e w'=>e= nR (nT #[])/\As w' (nS (nM ⟨g,0,nN⟩) d.length c) 4 d.length (d.reverse.flatMap D0)/\Chg w w' [g]:=by
 obtain⟨q,k,l,o⟩:=h.blk;have a:=UZ k o;have f:=AnyQ.slices_Reverse bV 4 (fun w=>isAgg42 w) (fun w=>sizeOf42 w) D0 Fg Ws g 0 c d.toArray w a xR;rw[List.size_toArray]at f;refine Calls.mono f ?_;rintro e w' ⟨m,n,rfl⟩;have b:HoldsK D0 4 (putRowK D0 4 (Sort.ahead w n) g 0 d.toArray.reverse) g 0 d.toArray.reverse:=holdsK_putRowK D0 4 _ g 0 d.toArray _ (holdsK_ahead D0 4 w n g 0 _ a) Zh;have j:d.toArray.reverse=d.reverse.toArray:=Zh;rw[j]at b|-;refine⟨m,⟨_,_,rfl,l,by rw[NY,List.length_reverse],fun i v p=>⟨g,0,rfl,SX b i v p⟩⟩, ?_⟩;exact Jc id w n g _
theorem YO(d:List UF)(sv:Vl)(w:Wl)(h:Ba w sv 42 4 d.length (d.flatMap D0))(k:d.length<=4294967296):
  Cl prog 28 #[sv] w fun e w'=>e= nR (nT #[])/\As w' sv 4 d.length (d.reverse.flatMap D0)/\Chg w w' sv.ownBlock.toList:=by
 obtain⟨a,c,rfl,f⟩:=h.form;by_cases b:d=[]
 .subst b;refine Calls.mono (AnyQ.slices_Reverse_empty bV a c w) ?_;rintro e w' ⟨j,rfl⟩;exact⟨j,⟨a,c,rfl,Nat.zero_le _,rfl,fun i v l=>by simp at l⟩,Chg.refl _ _⟩
 .obtain⟨g,rfl⟩:=f (List.length_pos_iff.2 b);exact YP d g c w h k
theorem Eh.enc:∀{os:List Bq} {xs:List Vl},Eh w G os xs->∃d:List UF,d.length=os.length/\xs=d.flatMap D0
 |[],_,h=>by unfold Eh at h;subst h;exact⟨[],rfl,rfl⟩
 |o::l,_,⟨sv,ys,r,b,e,i,j,f⟩=>by
  obtain⟨a,c,rfl,_⟩:=e.form;obtain⟨d,g,rfl⟩:=f.enc;exact⟨(o.kind,o.path,o.frm,a,o.steps.length,c)::d,by simp[g],by rw[b];rfl⟩
theorem we{p:Prop}(h:p:=by simpa using a):p:=h
theorem PU:∀{os:List Bq} {d:List UF},d.length=os.length->Eh w G os (d.flatMap D0)->Eh w G os.reverse (d.reverse.flatMap D0)
 |[],d,a,h=>by have:d=[]:=List.length_eq_zero_iff.1 a;subst this;exact h
 |o::l,[],a,h=>by simp at a
 |o::l,x::d,a,⟨sv,ys,r,b,f,g,i,j⟩=>by
  rw[List.flatMap_cons]at b;obtain⟨c,e⟩:=List.append_inj b (by rw[Fg];rfl);subst e;have k:=PU (os:=l) (d:=d) we j;rw[List.reverse_cons,List.reverse_cons,List.flatMap_append];refine k.append ?_;exact⟨sv,ys,[],by simp[c],f,g,i,rfl⟩
theorem Fs{P:Program}{H:Array Oper}{rest:List Oper}{o:Oper}{a:Act}{Q:Exit->Act->Wl->Prop}(r:o.guard=nN)(s x:Operand)(t:Ti)(A:o.op= .call {callee:= .builtin .append,args:=#[s,x],argTypes:=#[t,t]})(e:Ti)(z:Vl)(sz f:Nat)(D:0<sz)(E:P.underlying t=nM (.slice e))(v:(P.info? e).map (fun i=>(i.zero,i.size,i.bytes))=nM (nM z,sz,f))(T:z.cells.size=sz)(sv:Vl)(n:Nat)(xs:List Vl)(C:a.eval s=sv)(d:Ba w sv e sz n xs)(m:Nat)(us:List Vl)(J:Vl)(G:a.eval x=J)(p:As w J sz m us)(O:∀u∈us,u.oneCell'=true)(M:(n+m)*f<=140737488355328)(N:n+m<=140737488355328)(h:∀q cap w',Ba w' (nS q (n+m) cap) e sz (n+m) (xs++us)->Chg w w' sv.ownBlock.toList->(∀g,(Vl.slice q (n+m) cap).ownBlock=nM g->sv.ownBlock=nM g\/g=w.heap.size)->
   wpList P H Q rest (a.put o.dst (nS q (n+m) cap)) w'):wpList P H Q (o::rest) a w:=by
 obtain⟨V,I,rfl,Z,S⟩:=p.form;by_cases y:0<m
 .obtain⟨B,U,rfl,K⟩:=p.base y D
  exact Er r s x t A e z sz f D E v T sv n xs C d B U m I us G y S K O M N fun g cap w' j k l=>h _ cap w' j k fun Y c=>by
   simp[Vl.ownBlock]at c;subst c;exact l
 .obtain rfl:m=0:=by omega
  have R:us=[]:=by apply List.length_eq_zero_iff.1;omega
  subst R;obtain⟨i,hi,_⟩:=info_parts v;obtain⟨b,cap,rfl,_⟩:=d.form
  have L:n<=cap:=by
   rcases d.2 with⟨j,k⟩|⟨g,W,X,F,_,_,l,_⟩
   .omega
   .injection F with _ _ F;omega
  refine A1 r s x t A e i E hi b n cap L C V I G ?_;have:=h b cap w (by rw[List.append_nil,Nat.add_zero];exact d) cR (fun g c=> .inl c);exact this
end
section
open _root_.Go.Proofs.Tryz
open Go Go.RowKit Tree
variable{s:Ap}{l:List Tr}{cs xs:List Vl}{b cap g n:Nat}{F:Nat->Prop}{p:Prop}{T:Ti}{q r:Tmp}{sv:Vl}{w w':Wl}
def Zk(w:Wl)(F:Nat->Prop)(a:Vl)(l:List Tr):Prop:=
 ∃xs,Ba w a 29 6 l.length xs/\Aq w F l xs/\(∀b,F b->b<w.heap.size)/\(∀g,a.ownBlock=nM g->¬F g)
def Wf(w:Wl)(e:Ending)(w':Wl):Prop:=(∃(v:Vl) (k:Int),k≠0/\e= nR (nT #[v,nI nX k]))/\Chg w w' []
theorem wt(h:p:=by exact .inl ⟨List.eq_nil_of_length_eq_zero d,a,c,rfl⟩):p:=h
theorem As.rowAt{e:Vl}(h:As w e 1 n xs):Ax w (fun _=>True) e xs:=by
 obtain⟨a,c,rfl,i,d⟩:=h.form;rw[Nat.mul_one]at d;by_cases f:n=0
 .subst f;exact wt
 .obtain⟨b,o,rfl,g⟩:=h.base Zj ZM;exact .inr ⟨b,o,c,by rw[d],trivial,g⟩
structure aI(s:Ap)(ka:Option Addr)(kn kc:Nat)(w0:Wl)(B:Nat)(bF bT bK bD:Bool):Prop where
 cells:∀wx,Chg w0 wx []->Ac wx B [nI nX s.sort,.bool s.flag,nI .u64 s.bits,nG s.text,nI nX s.count,nS ka kn kc] 82
 fin:∀wx,Cl prog 93 #[nI .u64 s.bits] wx fun e w'=>e= nR (.bool bF)/\Chg wx w' []
 text:∀wx,Cl prog 94 #[nG s.text] wx fun e w'=>e= nR (.bool bT)/\wx=w'
 keys:∀wx,Chg w0 wx []->Cl prog 95 #[nS ka kn kc] wx fun e w'=>e= nR (.bool bK)/\Chg wx w' []
 twice:bK=true->∀wx,Chg w0 wx []->Cl prog 96 #[nS ka kn kc] wx fun e w'=>e= nR (.bool bD)/\Chg wx w' []
def AT(F:Nat->Prop)(T:Ti)(b:Nat)(sv:Vl)(l:List Tr)(s:Ap)(w:Wl)(e:Ending)(w':Wl):Prop:=
 if Ds s l=true then Cx F T b sv (NW l s) w e w' else Fc w e w'
theorem AT.yes(h:Ds s l=true):AT F T b sv l s w=Cx F T b sv (NW l s) w:=by
 funext e w';unfold AT;rw[Qr h]
theorem AT.no(h:¬Ds s l=true):AT F T b sv l s w=Fc w:=by
 funext e w';unfold AT;rw[Qs h]
theorem As.rowLt{f:Vl}(h:As w f 1 n xs):Ax w (fun k=>k<w.heap.size) f xs:=by
 obtain⟨a,c,rfl,j,d⟩:=h.form;rw[Nat.mul_one]at d;by_cases g:n=0
 .subst g;exact wt
 .obtain⟨b,o,rfl,e⟩:=h.base Zj ZM;have i:xs[0]? =nM xs[0]:=Q9 Zj;exact .inr ⟨b,o,c,by rw[d],World.block_lt_of_cell? w _ (e 0 _ i),e⟩
theorem cB(i:Bs s.sort s.flag s.bits s.text s.count s.keys.length=true)(f:s.sort≠5)(h:s.sort≠6):
  s.count=0/\s.keys=[]/\Hn s=0/\NW l s=l++[CF s []]/\AF s l=CF s []:=by
 have e:=Gw i;have b:s.count=0:=Decidable.byContradiction fun g=>f (e.2.2.2.2.2.2.1 g);have c:s.keys=[]:=Decidable.byContradiction fun g=>h (e.2.2.2.2.2.2.2 g);have a:Hn s=0:=by unfold Hn;rw[b,c];rfl
 have d:AF s l=CF s []:=by unfold AF;rw[a,Nat.sub_zero,List.drop_length]
 refine⟨b,c,a, ?_,d⟩;unfold NW;rw[a,Nat.sub_zero,List.take_length,d]
def uX(s:Ap)(l:List Tr):Prop:=
 (s.sort=1/\Hid (CF s []= .null/\(Ag (CF s [])).within=true/\Ds s l=true))\/
 (s.sort=2/\Hid (CF s []= .flag s.flag/\(Ag (CF s [])).within=true/\Ds s l=true))\/
 (s.sort=3/\((Hid (decide (9218868437227405312<Fl.A7 s.bits)=true)/\Hid (¬Ds s l=true))\/
  Hid (decide (9218868437227405312<Fl.A7 s.bits)=false)/\((Hid (decide (Fl.A7 s.bits=9218868437227405312)=true)/\Hid (¬Ds s l=true))\/
  Hid (decide (Fl.A7 s.bits=9218868437227405312)=false)/\(((FloatKind.f64.format.order s.bits 0==nM .eq)=true/\Hid (CF s []= .num 0/\(Ag (CF s [])).within=true/\Ds s l=true))\/
  ((FloatKind.f64.format.order s.bits 0==nM .eq)=false/\Hid (CF s []= .num s.bits/\(Ag (CF s [])).within=true/\Ds s l=true))))))\/
 (s.sort=4/\((Hid (Utf.Al s.text=false)/\Hid (¬Ds s l=true))\/Hid (Utf.Al s.text=true)/\((Hid (CF s []= .text s.text/\(Ag (CF s [])).within=false)/\Hid (¬Ds s l=true))\/Hid (CF s []= .text s.text/\(Ag (CF s [])).within=true/\Ds s l=true))))
theorem xV(h:p:=by rw[b];unfold Fl.Fh;simp;omega):p:=h
theorem uY(f:Bs s.sort s.flag s.bits s.text s.count s.keys.length=true)(o:s.sort≠5)(p:s.sort≠6):uX s l:=by
 obtain⟨x,q,t,y,r⟩:=cB (l:=l) f o p;have w:=Gw f;have c:Ds s l=(Kw s&&(Ag (CF s [])).within):=by unfold Ds;rw[r,t];simp
 have u:Kw s=((!decide (s.sort=3)||Fl.Fh s.bits)&&Utf.Al s.text):=by unfold Kw;rw[f,q];simp
 have e:s.sort≠4->Utf.Al s.text=true:=fun g=>by rw[show s.text=Dz from Decidable.byContradiction fun h=>g (w.2.2.2.2.2.1 h)];rfl
 rw[u]at c;have v:s.sort=1\/s.sort=2\/s.sort=3\/s.sort=4:=Zj;rcases v with h|h|h|h
 .have a:CF s []= .null:=by unfold CF;rw[Qr h]
  refine .inl ⟨h,a,by rw[a];rfl,by rw[c,e Zj,a,h];rfl⟩
 .have a:CF s []= .flag s.flag:=by unfold CF;rw[Qs Zj,Qr h]
  refine .inr (.inl ⟨h,a,by rw[a];rfl,by rw[c,e Zj,a,h];rfl⟩)
 .have a:CF s []= .num (Cg s.bits):=by unfold CF;rw[Qs Zj,Qs Zj,Qr h]
  have b:Ds s l=Fl.Fh s.bits:=by rw[c,e Zj,a,h];simp;exact fun _=>rfl
  refine .inr (.inr (.inl ⟨h, ?_⟩));by_cases m:9218868437227405312<Fl.A7 s.bits
  .exact .inl ⟨hZ (by simp[m]),hZ xV⟩
  refine .inr ⟨hZ wn, ?_⟩;by_cases n:Fl.A7 s.bits=9218868437227405312
  .exact .inl ⟨hZ (by simp[n]),hZ xV⟩
  refine .inr ⟨hZ wn, ?_⟩;have i:Ds s l=true:=xV
  rw[show FloatKind.f64.format=Ieee.double from rfl,Fl.Mb];by_cases d:Fl.A7 s.bits=0
  .exact .inl ⟨by simpa using d,by rw[a];unfold Cg;rw[Qr d],by rw[a];rfl,i⟩
  .exact .inr ⟨by simpa using d,by rw[a];unfold Cg;rw[Qs d],by rw[a];rfl,i⟩
 .have a:CF s []= .text s.text:=by unfold CF;rw[Qs Zj,Qs Zj,Qs Zj,Qr h]
  have b:Ds s l=(Utf.Al s.text&&(Ag (CF s [])).within):=by rw[c,h];rfl
  refine .inr (.inr (.inr ⟨h, ?_⟩));cases j:Utf.Al s.text with
  |false=>exact .inl ⟨rfl,hZ (by rw[b,j];simp)⟩
  |true=>
   refine .inr ⟨rfl, ?_⟩;rw[j,Bool.true_and]at b;cases k:(Ag (CF s [])).within with
   |false=>exact .inl ⟨⟨a,rfl⟩,hZ (by rw[b,k];simp)⟩
   |true=>exact .inr ⟨a,rfl,by rw[b,k]⟩
theorem xX(h:p:=by rw[AT.no r.o];exact D2 w N _ _ (w.heap.size+1) rfl rfl aj.o (d.o.trans S) Zj):p:=h
theorem YA(F:Nat->Prop)(T:Ti)(b:Nat)(sv:Vl)(l:List Tr)(vs:List Vl)(s:Ap)(sk:Vl)(w:Wl)(hM:C3 w F T b sv l vs)(hK:As w sk 1 s.keys.length (Ad s.keys))(hb:Di s)(p:EJ l)(hl:l.length<=65536):
  Cl prog 30 #[nP (nM ⟨b,0,nN⟩),DY s.sort s.flag s.bits s.text s.count sk] w (AT F T b sv l s w):=by
 obtain⟨V,W,rfl,bp,ba⟩:=hK.form;have br:∀(fn:Fn) (first cap:Array Vl) (w:Wl),(Instr.makeFunc fn first cap).run prog w= .ok (.func fn first cap) w:=fun _ _ _ _=>rfl;have bo:=GW;have f:=hZ hM;have aC:=hZ p;have HK:=hZ hK.rowLt;have O:=hZ hb;obtain⟨M,ax⟩:=Ue s.keys.length;rw[<-ax];have an:=hZ ax;have bq:=f.o.blk.lt;have aG:=hZ ((Ac.new w [nI nX s.sort,.bool s.flag,nI .u64 s.bits,nG s.text,nI nX s.count,nS V M W] 55).alloc (nC #[.nilIface] 35));have az:=hZ (CH w (nC ([nI nX s.sort,.bool s.flag,nI .u64 s.bits,nG s.text,nI nX s.count,nS V M W]).toArray 55) [.nilIface] 35);obtain⟨bU,hU⟩:=Ue (Bs s.sort s.flag s.bits s.text s.count M);have HU:=hZ hU.symm;clear hM p hK hb ax hU ba;go_enter_defers func30,ntmps30
 unfold DY;cases bU
 .rw[AT.no (fun h=>by
   unfold Ds Kw at h;rw[<-an.o,HU.o]at h
   simp at h)]
  go_wp2_with(first
   |(go_at_call 55;refine(Ck s.sort s.flag s.bits s.text s.count V M W _).mono ?_;rintro e B ⟨rfl,u⟩;rw[HU.o];have ab:=hZ (aG.o.kept u);have c:=hZ (az.o.kept u);obtain⟨bj,bk,ai,bf,bg,bh,aZ,bi⟩:=Ac.cells6 ab.o;obtain⟨ap,a8,a7⟩:=Ac.cells1 c.o)
   |(go_at_call 54;refine(CD _ _).mono ?_;rintro e X ⟨rfl,rfl⟩))
  exact D2 w B _ _ (w.heap.size+1) rfl rfl c.o ((((Chg.refl w []).alloc _).alloc _).trans u) Zj
 go_upto_region 3 with(first
  |(go_at_call 55;refine(Ck s.sort s.flag s.bits s.text s.count V M W _).mono ?_;rintro e B ⟨rfl,u⟩;rw[HU.o];have ab:=hZ (aG.o.kept u);have c:=hZ (az.o.kept u);obtain⟨bj,bk,ai,bf,bg,bh,aZ,bi⟩:=Ac.cells6 ab.o;obtain⟨ap,a8,a7⟩:=Ac.cells1 c.o)
  |(go_at_call 54;refine(Au _ _).mono ?_;rintro e X ⟨rfl,rfl⟩))
 have d:=UD (Chg w B []) ((((Chg.refl w []).alloc _).alloc _).trans u);have bs:w.heap.size+2<=B.heap.size:=by have:=u.size;simp at this;omega
 have q:Bs s.sort s.flag s.bits s.text s.count s.keys.length=true:=by rw[<-an.o];exact HU.o
 have x:=Gw q;by_cases m:s.sort=5
 .have ad:s.keys=[]:=Decidable.byContradiction fun g=>by have:=x.2.2.2.2.2.2.2 g;omega
  have K:s.text=Dz:=Decidable.byContradiction fun h=>by have:=x.2.2.2.2.2.1 h;omega
  obtain⟨n,J⟩:=Ue s.count.toNat;have aN:s.count=(n:Int):=Zj;have j:Hn s=n:=by unfold Hn;rw[ad,J];rfl
  have aT:Kw s=true:=CU.2 ⟨q,fun g=>Zj,by rw[K];rfl,by rw[ad];rfl,by rw[ad];exact List.nodup_nil⟩;have v:AF s l= .list (l.drop (l.length-n)):=by unfold AF CF;rw[j,Qs Zj,Qs Zj,Qs Zj,Qs Zj,Qr m]
  have am:=UD (Ds s l=(decide (n<=l.length)&&(Ag (.list (l.drop (l.length-n)))).within)) (by unfold Ds;rw[aT,v,j];rfl);have D:=UD (NW l s=l.take (l.length-n)++[.list (l.drop (l.length-n))]) (by unfold NW;rw[v,j]);rw[m]at ai;rw[aN]at aZ;clear m ad K J aN j aT v q x;by_cases aO:¬n<=l.length
  .have r:=UD (¬Ds s l=true) (by rw[am.o];simp[aO]);go_wp2_with(go_at_call 61;go_loud(refine(JS F T b sv l vs _ (f.o.kept d.o) n Zj).mono ?_;rintro e N ⟨rfl,S⟩;have aj:=hZ (c.o.kept S)));exact xX
  have J:n<=l.length:=Zj;have aX:=f.o.items.length;have a0:Hid ((vs.drop (vs.length-n)).length=n):=by unfold Hid;rw[Qm];omega
  obtain⟨S,hS⟩:∃S,(Bk (l.drop (vs.length-n))).over 0=S:=⟨_,rfl⟩;have aH:=hZ hS;have a5:=hZ aX;have HN:=hZ J;obtain⟨s1,s2,s3⟩:=S;clear aX hS aO
  go_wp2_with(first
   |(go_at_call 61;go_loud(have E:=hZ (f.o.kept d.o);refine(GS F T b sv l vs _ E.o n J Zj).mono ?_;rintro e N ⟨v5,rfl,ae,ay,aV⟩;obtain⟨Q,c5,rfl,_⟩:=ae.form;rw[a0.o]at ae ay|-;have ao:=hZ ae;have a4:=hZ ay;have Z:=hZ aV;clear ae ay aV))
   |(go_at_call 63;go_loud(
     refine(Ie (fun k=>F k\/(Vl.slice Q n c5).ownBlock=nM k) (nS Q n c5) (l.drop (vs.length-n)) (vs.drop (vs.length-n)) 0 N (ao.o.rowAt fun g hg=> .inr hg)
      ((E.o.items.kept (Z.o.keepsF E.o.lt) (fun _ h=> .inl h)).drop _) (by
       rintro k (a|a)
       .exact Q6 (E.o.lt k a) Z.o.size
       .exact ao.o.lt a) (aC.o.drop _) wn Zj).mono ?_
     rintro e C ⟨rfl,aQ⟩;rw[aH.o];unfold SC;have aD:=hZ aQ;clear aQ)))
  obtain⟨y,af⟩:=Ue (C.alloc (nC #[nI nX s1,nI nX s2,nI nX s3,nS Q n c5] 145));rw[<-af];have G:Ac y C.heap.size [nI nX s1,nI nX s2,nI nX s3,nS Q n c5] 145:=by rw[af];exact Ac.new C _ _
  have av:Chg N y []:=by rw[af];exact aD.o.alloc _
  have I:Chg B y []:=Z.o.trans av;have aR:Chg w y []:=d.o.trans I;have bd:B.heap.size<=C.heap.size:=(Z.o.trans aD.o).size;have be:C.heap.size<y.heap.size:=G.lt;obtain⟨z,R⟩:∃z:Nat->Prop,z=fun k=>F k\/(B.heap.size<=k/\k<y.heap.size):=⟨_,rfl⟩
  have aq:C3 y z T b sv l vs:=by
   subst R;refine E.o.grown I (fun k a=> .inl a) (fun k a=>a.imp_right And.left) (fun k a=> ?_);rcases a with a|a
   .have:=E.o.lt k a;have:=I.size;omega
   .exact a.2
  have aY:l.drop (l.length-n)=l.drop (vs.length-n):=by rw[a5.o]
  have aU:Ag (.list (l.drop (vs.length-n)))=⟨s1,s2,s3⟩:=by
   show(Bk (l.drop (vs.length-n))).over 0=_
   exact aH.o
  have aS:Af y z (.list (l.drop (l.length-n))) (nF 140 (nP (nM ⟨C.heap.size,0,nN⟩))):=by
   rw[aY];simp only[Af];rw[aU];have aW:=ao.o.kept av;refine⟨C.heap.size,nS Q n c5,vs.drop (vs.length-n),rfl,by rw[R];exact .inr ⟨bd,be⟩,G.cell 0,G.cell 1,G.cell 2,G.cell 3,aW.rowAt fun g hg=> ?_,aq.items.drop _⟩;rw[R];exact .inr ⟨a4.o g hg,aW.lt hg⟩
  have ak:=c.o.kept I;have aA:=hZ ak;have a3:=hZ aq;have aF:=hZ aS;have aE:=hZ aR;have bl:=hZ I;have al:=hZ R;obtain⟨a9,bn,bm⟩:=Ac.cells1 ak;clear af G av I aR aq aY aU aS ak R;by_cases ag:(Ag (.list (l.drop (l.length-n)))).within=true
  .refine(I0 z T _ _ b sv l vs n _ a3.o aF.o ag J Zj).mono ?_;rintro e w9 ⟨rfl,o⟩;have A:=hZ o
   have aa:=hZ (aA.o.kept o.chg (fun U=>by
    simp only[Qh,Option.mem_toList]at U;rcases U with U|U
    .omega
    .have:=f.o.lst.lt U;omega))
   obtain⟨aJ,aK,aI⟩:=Ac.cells1 aa.o;clear o;go_wp2_with fail;rw[AT.yes (by rw[am.o,ag];simp[HN.o]),D.o];refine uV f.o rfl rfl aa.o aE.o A.o (fun k a=>by rw[al.o];exact .inl a) (fun k a bb=> ?_) Zj a9 (fun p=> ?_)
   .rw[al.o]at a;rcases a with a|a
    .exact a
    .omega
   .rw[al.o]at p;rcases p with a|a
    .have:=f.o.lt _ a;omega
    .omega
  .have bc:(Ag (.list (l.drop (l.length-n)))).within=false:=by simpa using ag
   refine(IZ z _ _ b n _ aF.o bc).mono ?_;rintro e w9 ⟨rfl,aw⟩;have aa:=hZ (aA.o.kept aw);have a2:=hZ aw;clear aw;go_wp2_with fail;rw[AT.no (by rw[am.o];simp[ag])];exact D2 w w9 _ _ (w.heap.size+1) rfl rfl aa.o (aE.o.trans a2.o) Zj
 by_cases H:s.sort=6
 .have ar:s.count=0:=Decidable.byContradiction fun g=>m (x.2.2.2.2.2.2.1 g);have K:s.text=Dz:=Decidable.byContradiction fun h=>by have:=x.2.2.2.2.2.1 h;omega
  have j:Hn s=s.keys.length:=by unfold Hn;rw[ar];simp
  have v:AF s l=D1 s.keys (l.drop (l.length-s.keys.length)):=by unfold AF CF;rw[j,Qs Zj,Qs Zj,Qs Zj,Qs Zj,Qs Zj]
  have ah:Ds s l=true↔ux l s.keys:=by
   unfold Ds ux;rw[v,j];simp only[Bool.and_eq_true,decide_eq_true_eq,CU];exact⟨fun h=>⟨List.all_eq_true.1 h.1.1.2.2.2.1,h.1.1.2.2.2.2,h.1.2,h.2⟩,fun h=>⟨⟨⟨q,fun g=>Zj,by rw[K];rfl,List.all_eq_true.2 h.1,h.2.1⟩,h.2.2.1⟩,h.2.2.2⟩⟩
  have HO:=UD (∀Y,Chg w Y []->Cl prog 64 #[nP (nM ⟨b,0,nN⟩),nS V M W] Y (uA F T b sv l s.keys Y)) fun Y h=>by
   rw[an.o];exact uw F T b sv l vs Y (f.o.kept h) _ _ s.keys (HK.o.kept (h.keepsF (fun _ h=>h)) (fun _ h=>h)) (fun k a=>Q6 a h.size) O.o.size O.o.keys (fun _=>Zj) (Q7 (show(s.keys.map ByteArray.size).sum<=4294967296 from O.o.sum) Zj) aC.o Zj
  have D:=UD (NW l s=l.take (l.length-s.keys.length)++[D1 s.keys (l.drop (l.length-s.keys.length))]) (by unfold NW;rw[v,j]);rw[H]at ai;by_cases L:ux l s.keys
  .have i:=hZ L;have a6:=hZ (ah.2 L);clear m H ar K j v ah q x L;go_wp2_with(go_at_call 64;go_loud(refine(HO.o _ d.o).mono ?_;rintro e w4 hX;obtain⟨rfl,z,aL,aM,o⟩:=hX.1 i.o;clear hX;have a1:=hZ aL;have aB:=hZ aM;have A:=hZ o;clear aL aM o;have P:=hZ (c.o.kept A.o.chg (f.o.newNotIn (w.heap.size+1) Zj));obtain⟨aJ,aK,aI⟩:=Ac.cells1 P.o));rw[AT.yes a6.o,D.o];refine uV f.o rfl rfl P.o d.o A.o a1.o (fun k a bb=>aB.o k a Zj) Zj ap (fun p=> ?_);have:=f.o.lt _ (aB.o _ p ap);omega
  .have i:=hZ L;have r:=UD (¬Ds s l=true) fun h=>L (ah.1 h);clear m H ar K j v ah q x L;go_wp2_with(go_at_call 64;go_loud(refine(HO.o _ d.o).mono ?_;rintro e N hX;obtain⟨⟨n5,rfl⟩,S⟩:=hX.2 i.o;have aj:=hZ (c.o.kept S)));exact xX
 have D:=UD (NW l s=l++[CF s []]) (cB (l:=l) q m H).2.2.2.1;have hw:=uY (l:=l) q m H;obtain⟨t,ht⟩:=Ue (CF s []);unfold uX at hw;rw[<-ht]at hw D;clear q x m H ht;rcases hw with⟨a,i⟩|⟨a,i⟩|⟨a,⟨H1,r⟩|⟨H1,⟨H2,r⟩|⟨H2,⟨hz,i⟩|⟨hz,i⟩⟩⟩⟩|⟨a,⟨H3,r⟩|⟨H3,⟨i,r⟩|i⟩⟩
 all_goals
  rw[a]at ai;clear a
  go_wp2_with(first
   |(go_at_call_of 54 (Vl.bool true);refine(Au _ _).mono ?_;rintro e X ⟨rfl,rfl⟩)
   |(go_at_call 54;refine(CD _ _).mono ?_;rintro e X ⟨rfl,rfl⟩)
   |(go_at_call 58;refine(FO s.bits _).mono ?_;rintro e X ⟨rfl,rfl⟩;rw[H1.o])
   |(go_at_call 59;refine(bJ s.bits O.o.bits _).mono ?_;rintro e X ⟨rfl,rfl⟩;rw[H2.o])
   |(go_at_call 60;refine(Dq s.text _ O.o.text).mono ?_;rintro e w2 ⟨rfl,au⟩;rw[H3.o];replace d:=hZ (d.o.trans au);replace c:=hZ (c.o.kept au);obtain⟨bA,bB,bt,bu,bv,bw,bx,bz⟩:=Ac.cells6 (ab.o.kept au);obtain⟨bD,bE,bC⟩:=Ac.cells1 c.o)
   |(go_at_call 56;first
    |(refine(EO F T t _ b sv l vs _ (f.o.kept d.o) (by rw[i.o.1];simp only[Af]) i.o.2.1 Zj).mono ?_;rintro e w4 ⟨rfl,o⟩;have A:=hZ o;clear o;have P:=hZ (c.o.kept A.o.chg (f.o.newNotIn (w.heap.size+1) Zj));obtain⟨aJ,aK,aI⟩:=Ac.cells1 P.o)
    |(refine(Rm (fun _=>False) t _ b _ (by rw[i.o.1];simp only[Af]) i.o.2).mono ?_;rintro e w4 ⟨rfl,aP⟩;replace d:=hZ (d.o.trans aP);replace c:=hZ (c.o.kept aP))))
  first
   |(rw[AT.no r.o];exact D2 w _ _ _ (w.heap.size+1) rfl rfl c.o d.o Zj)
   |rw[AT.yes i.o.2.2,D.o]
    exact uV f.o rfl rfl P.o d.o A.o (fun _ h=>h) (fun _ h _=>h) Zj c.o.lt (fun p=>by have:=f.o.lt _ p;omega)
def BO(l:List Ap)(w:Wl)(e:Ending)(w':Wl):Prop:=
 (match(if l.length<=65536 then CA l else nN)with
  |some t=>∃(F:Nat->Prop) (a:Nat),e= nR (nT #[nP (nM ⟨a,0,nN⟩),.nilIface])/\CG w' F a t/\(∀b,F b->b<w'.heap.size)/\(Ag t).within=true/\(∀b,F b->w.heap.size<=b)/\w.heap.size<=a
  |none=>∃(c:Ti) (x:Vl),e= nR (nT #[nP nN,nF c x]))/\Chg w w' []
theorem Az.item{l:List Ap}{o c:Nat}(h:As w (nS (nM ⟨b,o,nN⟩) n c) 6 l.length xs)(p:0<l.length)(k:Az w l xs){i:Nat}(q:l[i]? =nM s):
  ∃sk,As w sk 1 s.keys.length (Ad s.keys)/\∀j v,(AI s sk)[j]? =nM v->w.cell? ⟨b,o+i*6+j,nN⟩=nM v:=by
 obtain⟨sk,f,g⟩:=k.get i s q;obtain⟨t,u,e,m⟩:=h.base p ZM;injection e with e
 injection e with a d
 subst a;subst d;exact⟨sk,f,fun j v r=>by rw[Nat.add_assoc];exact m _ v (g j v r)⟩
theorem AT.after{d:Wl}{e:Ending}(a:Chg w d [])(h:AT F T b sv l s d e w'):AT F T b sv l s w e w':=by
 unfold AT at h|-;by_cases c:Ds s l=true
 .rw[Qr c]at h|-;exact Cx.after a h
 .rw[Qs c]at h|-;exact⟨h.1,a.trans h.2⟩
theorem Ni(h:Ds s l=true):AT F T b sv l s=Cx F T b sv (NW l s):=by
 funext w;exact AT.yes h
theorem OR(h:Ds s l=false):AT F T b sv l s=Fc:=by
 funext w;exact AT.no (by rw[h];decide)
theorem xP(h:p:=by exact cg cR):p:=h
theorem Fk(l:List Ap)(sl:Vl)(xs:List Vl)(w:Wl)(P:As w sl 6 l.length xs)(hS:Az w l xs)(I:∀s∈l,Di s)(hl:l.length<=4294967296):
  Cl prog 16 #[sl] w (BO l w):=by
 obtain⟨a,c,rfl,aB,_⟩:=P.form;have aD:∀(k:Int) (w:Wl),(Instr.typeAssert (nF 74 (nI nX k)) 35 74 false).run prog w= .ok (nI nX k) w:=fun _ _=>Yb;have HR:=hZ P;have HS:=hZ hS;have HB:=hZ I;clear P hS I;by_cases D:l.length<=65536
 .obtain⟨w0,E⟩:=Ue (w.alloc (nC #[nS nN 0 0] 87));have HG:Hid (Chg w w0 []):=by rw[E];exact hZ ((Chg.refl w []).alloc _)
  have aq:Hid (C3 w0 (fun _=>False) 87 w.heap.size (nS nN 0 0) [] []):=by
   rw[E];exact hZ ⟨Ac.new w _ _,AK.nil _ _,by simp[Ak],Zh,(fun g m=>by cases m),(fun k f=>f.elim)⟩
  have ak:w0.heap.size=w.heap.size+1:=by rw[E];simp
  have HZ:=hZ ak;have HW:=hZ E;clear E ak;go_enter func16,ntmps16;go_wp2_with fail;rw[<-HW.o];go_loopw [14] (fun X wr=>∃(i:Nat) (row:List Tr) (F:Nat->Prop) (sv:Vl) (vs:List Vl),i<=l.length/\X= nI nX i/\DS [] (l.take i)=nM row/\C3 wr F 87 w.heap.size sv row vs/\(∀k,F k->w.heap.size<=k)/\(∀g,sv.ownBlock=nM g->w.heap.size<=g)/\Chg w wr []) (fun X _=>l.length-(intOf X).toNat)
  case atStart=>exact⟨0,[],_,_,[],Zj,rfl,by simp[DS],aq.o,fun k f=>f.elim,fun g m=>(by cases m),HG.o⟩
  case round=>
   obtain⟨q,rfl⟩:=Ue wr;obtain⟨i,row,F,sv,vs,hi,rfl,n,O,ah,ai,m⟩:=hrel;have R:=Jq (row:=[]) (fun _ h=>by cases h) n;have aj:row.length<=65536:=by have:=R.2;rw[Ql]at this;simp at this;omega
   have z:=hZ m;have N:=hZ n;have y:=hZ O;have Z:=hZ ah;have aa:=hZ ai;have Y:=hZ R.1;obtain⟨x1,x2,az⟩:=Ac.cells1 O.blk;have av:w.heap.size<=q.heap.size:=m.size;clear n O ah ai m R;by_cases J:i<l.length
   .obtain⟨s,A⟩:∃s,l[i]? =nM s:=⟨_,Q9 J⟩;have W:s∈l:=Qi A;obtain⟨b,o,rfl,_⟩:=HR.o.base Zj ZM;obtain⟨sk,K,V⟩:=Az.item HR.o Zj HS.o A;obtain⟨ka,kc,rfl,_⟩:=K.form;have p:∀j v,(AI s (nS ka s.keys.length kc))[j]? =nM v->q.cell? ⟨b,o+i*6+j,nN⟩=nM v:=fun j v hv=>z.o.keeps (V j v hv);have c0:=p 0 _ rfl;have c1:=p 1 _ rfl;have c2:=p 2 _ rfl;have c3:=p 3 _ rfl;have c4:=p 4 _ rfl;have c5:=p 5 _ rfl;rw[Nat.add_zero]at c0
    have G:=UD (∀L,Chg q L []->Cl prog 30 #[nP (nM ⟨w.heap.size,0,nN⟩),nA #[nI nX s.sort,.bool s.flag,nI .u64 s.bits,nG s.text,nI nX s.count,nS ka s.keys.length kc]] L (AT F 87 w.heap.size sv row s q)) fun L h=>
     (YA F _ _ sv row vs s _ L (y.o.kept h) (K.kept (z.o.trans h)) (HB.o s W) Y.o aj).mono fun e w' hp=>AT.after h hp
    by_cases C:Ds s row=true
    .have T:=KE N.o A;rw[Qr C]at T;have ar:=hZ T;rw[Ni C]at G;clear T C A W K V p;go_wp2_with(first|(go_at_call 30;refine(G.o _ xP).mono ?_;rintro e w3 ⟨rfl,F3,ax,ay,au,ab,ad,B,ae⟩;have al:=hZ ab;have am:=hZ ad;have M:=hZ B;have an:=hZ ae;clear au ab ad B ae));go_roundw
     case rel=>
      refine⟨i+1,_,F3,ax,ay,Zj,by go_num,ar.o,am.o,fun k f=> ?_,fun g m=> ?_, ?_⟩
      .by_cases J:k<q.heap.size
       .exact Z.o k (al.o k f J)
       .omega
      .rcases an.o g m with h|h
       .exact aa.o g h
       .omega
      refine Chg.step (cs:=w.heap.size::sv.ownBlock.toList) (b:=_) ?_ M.o fun k f J=> ?_
      .exact cg z.o
      .exfalso
       simp only[Qh,Option.mem_toList]at f;rcases f with rfl|f
       .omega
       .have:=aa.o k f;omega
     case measure=>simp[intOf];omega
    .have Q:Ds s row=false:=by simpa using C
     have ag:=Oz N.o A Q;have d:(if l.length<=65536 then CA l else nN)=nN:=by rw[Qr D];unfold CA;rw[ag]
     have u:=hZ d;rw[OR Q]at G;clear ag d C Q A W K V p;go_wp2_with(first|(go_at_call 30;refine(G.o _ xP).mono ?_;rintro e w3 ⟨⟨n3,rfl⟩,B⟩;have M:=hZ B;clear B));go_quiet(fail);go_wp2_with fail;go_ret2;unfold BO;rw[u.o];exact⟨⟨_,_,rfl⟩,Chg.drewN (ct z.o M.o) _⟩
   .obtain rfl:i=l.length:=by omega
    have n:=N.o;rw[Qn (Q8 _)]at n;have aw:=y.o.items.length;obtain⟨sa,sc,rfl,U⟩:=y.o.lst.form;by_cases H:row.length=1
    .obtain⟨t,rfl⟩:∃t,row=[t]:=by
      match row,H with
      |[t],_=>exact⟨t,rfl⟩
     have d:(if l.length<=65536 then CA l else nN)=nM t:=by rw[Qr D];unfold CA;rw[n]
     have u:=hZ d;have af:=y.o.items;simp only[Ak]at af;obtain⟨v,r,rfl,S,rfl⟩:=af;obtain⟨g,rfl⟩:=U Zh;obtain⟨ti,x,rfl⟩:=S.iface;have y1:q.cell? ⟨g,0,nN⟩=nM (nF ti x):=y.o.lst.cell rfl 0 _ rfl;have ap:=hZ S;have ao:Hid ((Ag t).within=true):=Y.o t Zh;simp only[Qj,List.length_nil]at aw aj az|-;clear S U H n d;go_wp2_with fail;go_ret2;unfold BO;rw[u.o];exact⟨⟨F,q.heap.size,by first|rfl|simp,⟨nF ti x,Bx rfl _ _,Af.kept (((Chg.refl q []).alloc _).keepsF y.o.lt) (fun _ h=>h) _ _ ap.o,Zh⟩,fun b I=>by have:=y.o.lt b I;simp;omega,ao.o,Z.o,av⟩,z.o.alloc _⟩
    .have d:(if l.length<=65536 then CA l else nN)=nN:=by
      rw[Qr D];unfold CA;rw[n];match row,H with
      |[],_=>rfl
      |[t],h=>exact absurd rfl h
      |_::_::_,_=>rfl
     have u:=hZ d;have aA:((vs.length:Int)==1)=false:=by rw[Qq];omega
     clear d n H U;go_wp2_with fail;go_ret2;unfold BO;rw[u.o];exact⟨⟨_,_,rfl⟩,z.o⟩
 .have d:(if l.length<=65536 then CA l else nN)=nN:=Qs D;have u:=hZ d;have aC:(65536:Int)<(l.length:Int):=Zj;clear d D;go_enter func16,ntmps16;go_wp2_with fail;go_ret2;unfold BO;rw[u.o];exact⟨⟨_,_,rfl⟩,Chg.refl _ _⟩
theorem Aq.split(h:Aq w F l xs)(k:Nat):Aq w F (l.take k) (xs.take (6*k))/\Aq w F (l.drop k) (xs.drop (6*k)):=by
 induction l generalizing xs k with
 |nil=>simp only[Aq]at h;subst h;simp[Aq]
 |cons t l g=>
  simp only[Aq]at h;obtain⟨c,r,rfl,a,b⟩:=h;cases k with
  |zero=>simp only[List.take_zero,Nat.mul_zero,List.drop_zero,Aq];exact⟨trivial,c,r,rfl,a,b⟩
  |succ k=>
   have d:=a.length;obtain⟨e,f⟩:=g b k;simp only[List.take_succ_cons,List.drop_succ_cons,Aq];rw[List.take_append,List.drop_append,d,show 6*(k+1)-6=6*k from by omega,Qn (by omega:c.length<=6*(k+1)),List.drop_of_length_le (by omega:c.length<=6*(k+1)),List.nil_append];exact⟨⟨c,_,rfl,a,e⟩,f⟩
theorem Aq.append{m:List Tr}{ys:List Vl}(h:Aq w F l xs)(k:Aq w F m ys):Aq w F (l++m) (xs++ys):=by
 induction l generalizing xs with
 |nil=>simp only[Aq]at h;subst h;simpa using k
 |cons t l d=>
  simp only[Aq]at h;obtain⟨c,r,rfl,a,b⟩:=h;simp only[Qo,Aq];exact⟨c,r++ys,Zh,a,d b⟩
theorem AL.ones{t:Tr}(h:AL w F t cs):∀u∈cs,u.oneCell'=true:=by
 obtain⟨_,_,_,_,_,rfl,_⟩:=h.uni;intro u a;simp only[vC,Qh,List.not_mem_nil,or_false]at a;rcases a with rfl|rfl|rfl|rfl|rfl|rfl<;>rfl
theorem Aq.ones(h:Aq w F l xs):∀u∈xs,u.oneCell'=true:=by
 induction l generalizing xs with
 |nil=>simp only[Aq]at h;subst h;intro u a;cases a
 |cons t l e=>
  simp only[Aq]at h;obtain⟨c,r,rfl,b,d⟩:=h;intro u a;rcases Qf.1 a with a|a
  .exact b.ones u a
  .exact e d u a
theorem Z2(w:Wl)(e:Ti)(sz:Nat):Ba (w.alloc (nC #[] e)) (nS (nM ⟨w.heap.size,0,nN⟩) 0 0) e sz 0 []:=World.ownsRow_made w #[] 0 (Nat.zero_le _) (Nat.zero_le _) Zh
theorem Vd(h:b<18446744073709551616):Tl b=Cg b:=by
 unfold Tl Cg Fl.A7;split<;>split<;>omega
theorem Ba.popK{a:Option Addr}{sz:Nat}{e:Ti}(h:Ba w (nS a n cap) e sz n xs)(k:Nat)(p:k<=n):Ba w (nS a k cap) e sz k (xs.take (k*sz)):=by
 have v:k*sz<=n*sz:=Nat.mul_le_mul_right _ p;refine⟨by rw[Ql,h.1];omega, ?_⟩;rcases h.2 with⟨b,s⟩|⟨g,r,d,c,m,o,u,i,j,l⟩
 .injection b with b t f
  subst b;subst f;have:k=0:=Zj;subst this;exact .inl ⟨rfl,rfl⟩
 .injection c with c x q
  subst c;subst q;refine .inr ⟨g,cap,d,rfl,m,o,Zj,i,j, ?_⟩;rw[<-l,List.take_take]
  congr 1
  omega
def Y5(F:Nat->Prop)(f:List Tr)(d:Vl)(w:Wl)(e:Ending)(w':Wl):Prop:=
 (∃(a:Vl) (c:Nat->Prop),e= nR (nT #[a,nI nX 0])/\Zk w' c a f/\(∀g,a.ownBlock=nM g->d.ownBlock=nM g\/w.heap.size<=g)/\∀b,c b->F b\/w.heap.size<=b)/\Chg w w' d.ownBlock.toList
def GE(F:Nat->Prop)(l:List Tr)(s:Ap)(a:Vl)(w:Wl)(e:Ending)(w':Wl):Prop:=
 if Ds s l=true then Y5 F (NW l s) a w e w' else Wf w e w'
theorem Iy(f:EJ l)(r:l.length<=65536)(b:Di s)(i:Kw s=true)(t:Hn s<=l.length):
  (Ag (AF s l)).nodes<=1099511627776/\(Ag (AF s l)).bytes<=1152921504606846976/\(Ag (AF s l)).depth<=1099511627776:=by
 obtain⟨j,_,_,_,h⟩:=CU.1 i;have k:=Gw j;have m:=(f.drop (l.length-Hn s)).sum;have a:(l.drop (l.length-Hn s)).length<=65536:=by rw[Qm];omega
 have n:=b.text;have o:=b.sum;have p:(l.drop (l.length-Hn s)).length*65536<=65536*65536:=Nat.mul_le_mul_right _ a;have q:(l.drop (l.length-Hn s)).length*2097152<=65536*2097152:=Nat.mul_le_mul_right _ a;unfold AF CF;split
 .simp[Ag]
 .split
  .simp[Ag]
  .split
   .simp[Ag]
   .split
    .simp[Ag];omega
    .split
     .simp only[Ag,Sz.over];omega
     .rename_i c;have d:s.count=0:=Decidable.byContradiction fun g=>c (k.2.2.2.2.2.2.1 g);have e:s.keys.length=(l.drop (l.length-Hn s)).length:=by rw[Qm];unfold Hn at*;rw[d]at*;simp at*;omega
      rw[Kd h e];simp only[Sz.over];omega
theorem Kz{d:Vl}{v:Vl}{k:Int}(c:¬Ds s l=true)(b:k≠0)(a:Chg w w' []):GE F l s d w (nR (nT #[v,nI nX k])) w':=by
 unfold GE;rw[Qs c];exact⟨⟨v,k,b,rfl⟩,a⟩
theorem IC{j:Nat->Prop}{d:Option Addr}{e D:Nat}{i r:Wl}(I:Ds s l=true)(E:Ba w (nS d l.length e) 29 6 l.length xs)(C:Aq w F l xs)(m:∀b,F b->b<w.heap.size)(k:∀g,(Vl.slice d l.length e).ownBlock=nM g->¬F g)(u:D=l.length-Hn s)(q:Chg w i [])(H:AL i j (AF s l) cs)(n:∀b,j b->b<i.heap.size)(o:∀b,j b->F b\/w.heap.size<=b)(B:Ba r (nS (nM ⟨g,0,nN⟩) (D+1) cap) 29 6 (D+1) (xs.take (D*6)++cs))(f:Chg i r (Vl.slice d D e).ownBlock.toList)(p:(Vl.slice d D e).ownBlock=nM g\/i.heap.size<=g):
  GE F l s (nS d l.length e) w (nR (nT #[nS (nM ⟨g,0,nN⟩) (D+1) cap,nI nX 0])) r:=by
 unfold GE;rw[Qr I];have y:(Vl.slice d D e).ownBlock=(Vl.slice d l.length e).ownBlock:=by cases d<;>rfl
 rw[y]at f p;have x:∀g,(Vl.slice d l.length e).ownBlock=nM g->g<w.heap.size:=fun g h=>E.lt h;have J:=q.size;have G:(NW l s).length=D+1:=by unfold NW;rw[Qk,Ql,List.length_singleton,<-u];omega
 refine⟨⟨_,fun b=>F b\/j b,rfl,⟨xs.take (D*6)++cs, ?_, ?_, ?_, ?_⟩, ?_,fun b a=>a.elim .inl (o b)⟩,(q.none _).trans f⟩
 .rw[G];exact B
 .unfold NW;rw[<-u];refine Aq.append ?_ ?_
  .have:=(C.split D).1;rw[show D*6=6*D from Nat.mul_comm _ _];exact Aq.kept (((q.none _).trans f).keepsF m fun b a=>k b we) (fun _ h=> .inl h) _ _ this
  .simp only[Aq];refine⟨cs,[],Zh,AL.kept (f.keepsF n fun b a z=> ?_) (fun _ h=> .inr h) _ _ H,rfl⟩;have A:=x b we;rcases o b z with c|c
   .exact k b we c
   .omega
 .intro b a;have:=f.size;rcases a with h|h
  .have:=m b h;omega
  .have:=n b h;omega
 .intro b a v;simp[Vl.ownBlock]at a;subst a;rcases p with h|h
  .have A:=x _ h;rcases v with c|c
   .exact k _ h c
   .rcases o _ c with t|t
    .exact k _ h t
    .omega
  .rcases v with c|c
   .have:=m _ c;omega
   .have:=n _ c;omega
 .intro b a;simp[Vl.ownBlock]at a;subst a;rcases p with h|h
  .exact .inl h
  .exact .inr Zj
theorem xC(h:p:=by go_wp2_with(first|(at_builtin;refine A1 rfl _ _ _ rfl 29 ti underlying26 cd _ 0 0 (Q8 _) ZN _ _ ZN ?_));go_meet;exact⟨_,_,[],F,rfl,⟨_,_,rfl,Nat.zero_le _,rfl,fun i v hv=>by simp at hv⟩,.inl rfl,by rw[bi.o];simp[Aq],fun b a=>by have:=S.o b a;have:=aJ;simp;omega,fun b a=> .inl a,(Chg.refl _ _).alloc _⟩):p:=h
theorem xO(h:p:=by intro u G;simp only[vC,Qh,List.not_mem_nil,or_false]at G;rcases G with rfl|rfl|rfl|rfl|rfl|rfl<;>rfl):p:=h
theorem xS(h:p:=by simp only[AL];exact⟨nN,0,nN,0,rfl⟩):p:=h
theorem uQ(l:List Tr)(F:Nat->Prop)(rv:Vl)(s:Ap)(sk:Vl)(w:Wl)(hR:Zk w F rv l)(hK:As w sk 1 s.keys.length (Ad s.keys))(a:Di s)(hf:EJ l)(hl:l.length<=65536):
  Cl prog 52 #[rv,nA #[nI nX s.sort,.bool s.flag,nI .u64 s.bits,nG s.text,nI nX s.count,sk]] w (GE F l s rv w):=by
 obtain⟨xs,hX,hV,hF,hO⟩:=hR;have hr:=hX.form;obtain⟨ra,rc,rfl,di⟩:=hr;obtain⟨ka,kc,rfl,de,_⟩:=hK.form;have an:∀c,Chg w c []->As c (nS ka s.keys.length kc) 1 s.keys.length (Ad s.keys):=fun c h=>hK.kept h;obtain⟨J,A⟩:=Ue s.keys.length;rw[<-A]at an de|-;obtain⟨w0,ap⟩:=Ue (w.alloc (nC #[nI nX s.sort,.bool s.flag,nI .u64 s.bits,nG s.text,nI nX s.count,nS ka J kc] 82));have m:Hid (Chg w w0 []):=by rw[ap];exact hZ ((Chg.refl w []).alloc _)
 have bh:Hid (Ac w0 w.heap.size [nI nX s.sort,.bool s.flag,nI .u64 s.bits,nG s.text,nI nX s.count,nS ka J kc] 82):=by rw[ap];exact hZ (Ac.new w _ _)
 have cl:w0.heap.size=w.heap.size+1:=by rw[ap];simp
 obtain⟨z1,z2,z3,z4,z5,z6,z7,z8⟩:=Ac.cells6 bh.o;have dy:=a.count;obtain⟨bU,hU⟩:=Ue (Bs s.sort s.flag s.bits s.text s.count J);obtain⟨bF,aC⟩:=Ue (Fl.Fh s.bits);obtain⟨bT,hT⟩:=Ue (Utf.Al s.text);obtain⟨bK,ak⟩:=Ue (s.keys.all Utf.Al);obtain⟨bD,P⟩:=Ue (!decide s.keys.Nodup)
 have r:Hid (aI s ka J kc w0 w.heap.size bF bT bK bD):=Lib.hid
  {cells:=fun c h=>bh.o.kept h
   fin:=fun c=>by rw[aC];exact MM s.bits a.bits c
   text:=fun c=>by rw[hT];exact Ii s.text c a.text
   keys:=fun c h=>by rw[ak,A];exact Ov (fun _=>True) _ s.keys c (by rw[<-A];exact(an c (m.o.trans h)).rowAt) a.size (by have:=a.keys;omega)
   twice:=fun Z c h=>by rw[P,A];exact Ow s.keys _ c (by have:=an c (m.o.trans h);rwa[A]at this) (fun x hx=>⟨List.all_eq_true.1 (ak.symm.trans Z) x hx,a.size x hx⟩) (by have:=a.keys;omega)}
 have ad:=UD (Ds s l=true↔((bU=true/\(s.sort=3->bF=true)/\bT=true/\bK=true/\bD=false)/\Hn s<=l.length)/\(Ag (AF s l)).within=true) (by
  unfold Ds;rw[Bool.and_eq_true,Bool.and_eq_true,decide_eq_true_eq,CU,hU,aC,hT,ak,P,A]
  simp)
 have bt:=UD (bU=true->_) fun h=>Gw (s:=s) (by rw[<-A,<-hU];exact h);have HW:=hZ ap;have cI:=UD (Hn s=s.count.toNat+J) (by rw[A];rfl);have df:=a.keys;have HX:=hZ hX;have HV:=hZ hV;have S:=hZ hF;have HO:=hZ hO;have cD:=hZ an;have HB:=hZ a;have cA:=hZ hf;have HU:=hZ hU.symm;have U:=hZ A;have bk:=hZ ak;have bn:=hZ P;have cz:=hZ aC;have cP:=hZ hT;have cW:=hZ cl;have dk:xs.length=l.length*6:=by rw[hV.length];omega
 have dc:=hX.capLe;rw[<-A]at df;clear hX hV hF hO an a hf hU aC hT ak P ap hK di cl A;obtain⟨ti,cd,_⟩:=info_parts Dp;have cT:=UD (∀u∈xs,u.oneCell'=true) (Aq.ones HV.o);go_enter func52,ntmps52;go_upto_region 1 with(fail);rw[<-HW.o]
 go_upto_if 11 with(go_at_call 92;refine(CM s.sort s.flag s.bits s.text s.count ka J kc _).mono ?_;rintro e w1 ⟨rfl,d⟩;rw[HU.o];have au:=UD (Chg w0 w1 []) d;obtain⟨a1,a2,a3,a4,a5,a6,a7,a8⟩:=Ac.cells6 (r.o.cells _ d);clear d);cases bU
 .go_wp2_with fail;go_ret2;exact Kz (fun h=>by have:=ad.o.1 h;simp at this) ZM (m.o.trans au.o)
 obtain⟨b9,cc,bI,C,Y,E,bJ,bN⟩:=bt.o rfl;have t:=hZ (And.intro b9 (And.intro cc (And.intro C (And.intro Y (And.intro E (And.intro bJ bN))))));have aM:=hZ bI;clear b9 cc bI C Y E bJ bN bt;obtain⟨b2,bG⟩:=Ue ((s.sort==3&& !bF));have aK:=hZ bG;clear bG;go_upto_region 3 with fail;go_cut [21]from 9 (fun dm c=>dm= .bool b2/\Chg w0 c [])
 case first=>
  cases d3:(s.sort==3)
  all_goals
   go_wp2_with(go_at_call 93;refine(r.o.fin _).mono ?_;rintro e w2 ⟨rfl,a⟩;have bM:=au.o.trans a;obtain⟨b1,bv,b3,b4,b5,b6,b7,b8⟩:=Ac.cells6 (r.o.cells _ bM));go_meet;exact⟨by rw[aK.o,d3];rfl,by first|exact bM|exact au.o⟩
 case rest=>
  obtain⟨rfl,d⟩:=hcut;obtain⟨w2,ch⟩:=Ue wc;rw[<-ch]at d|-;have av:=hZ d;obtain⟨b1,bv,b3,b4,b5,b6,b7,b8⟩:=Ac.cells6 (r.o.cells _ d);clear ch d a1 a2 a3 a4 a5 a6 a7 a8 au;cases b2
  rotate_left
  .go_wp2_with fail;go_ret2
   exact Kz (fun h=>by
    have y:=aK.o.symm;simp only[Bool.and_eq_true,beq_iff_eq,Bool.not_eq_true']at y;have z:=(ad.o.1 h).1.1.2.1 y.1
    rw[y.2]at z;cases z) ZM (m.o.trans av.o)
  cases bT
  .go_wp2_with(go_at_call 94;refine(r.o.text _).mono ?_;rintro e w3 ⟨rfl,rfl⟩);go_ret2;exact Kz (fun h=>by have:=ad.o.1 h;simp at this) ZM (m.o.trans av.o)
  go_upto_if 32 with(first
   |(go_at_call 94;refine(r.o.text _).mono ?_;rintro e w3 ⟨rfl,rfl⟩)
   |(go_at_call 95;refine(r.o.keys _ av.o).mono ?_;rintro e w4 ⟨rfl,hc⟩;have aw:=hZ (av.o.trans hc);obtain⟨c1,c2,c3,c4,c5,c6,c7,c8⟩:=Ac.cells6 (r.o.cells _ aw.o);clear hc b1 bv b3 b4 b5 b6 b7 b8))
  cases bK
  .go_wp2_with fail;go_ret2;exact Kz (fun h=>by have:=ad.o.1 h;simp at this) ZM (m.o.trans aw.o)
  go_upto_if 36 with(go_at_call 96;refine(r.o.twice rfl _ aw.o).mono ?_;rintro e w5 ⟨rfl,hd⟩;have ag:=hZ (aw.o.trans hd);obtain⟨d1,d2,d3,d4,d5,d6,d7,d8⟩:=Ac.cells6 (r.o.cells _ ag.o);clear hd c1 c2 c3 c4 c5 c6 c7 c8);cases bD
  rotate_left
  .go_wp2_with fail;go_ret2;exact Kz (fun h=>by have:=ad.o.1 h;simp at this) ZM (m.o.trans ag.o)
  obtain⟨N,X⟩:=Ue (Hn s);have dx:s.count+(J:Int)=(N:Int):=by rw[X,cI.o];have:=aM.o;omega
  have db:N<=9223372036854775807:=by
   have y:=t.o.2.2.2.2.2.1;have z:=t.o.2.2.2.2.2.2;have n:=aM.o;by_cases g:s.count=0
   .omega
   .have:s.keys=[]:=Decidable.byContradiction fun g2=>by have:=y g;have:=z g2;omega
    have:=U.o;rw[‹s.keys=[]›]at this;simp only[List.length_nil]at this;omega
  have z9:IntKind.i64.wrap (N:Int)=(N:Int):=xN
  have HN:=hZ X;by_cases hn:¬N<=l.length
  .have dp:(l.length:Int)<(N:Int):=by omega
   have ax:=UD (¬Hn s<=l.length) (by rw[<-X];exact hn);clear X hn;go_wp2_with fail;go_ret2;exact Kz (fun h=>ax.o (ad.o.1 h).1.2) ZM (m.o.trans ag.o)
  have hn:N<=l.length:=Zj;obtain⟨D,P⟩:=Ue (l.length-N);have c0:l.length-D=N:=Zj;have dw:(l.length:Int)-(N:Int)=(D:Int):=Zj;have dr:=hZ P;have dZ:IntKind.i64.wrap (D:Int)=(D:Int):=IntWalk.i64_in _ Zj;have dp:(N:Int)<=(l.length:Int):=Zj;have dq:D<=l.length:=Zj;have eh:l.length<=rc:=dc.2;have eb:D<=rc:=Zj;have ed:(D:Int)<=(rc:Int):=Zj;have ef:(0:Int)<=(D:Int):=Zj
  have bo:=UD (Kw s=true) (CU.2 ⟨by rw[<-U.o];exact HU.o,fun h=>by
   have z:=aK.o;rw[h]at z;rw[<-cz.o]
   simpa using z.symm,cP.o.symm,bk.o.symm,by simpa using bn.o.symm⟩)
  have aN:=UD (D=l.length-Hn s) (by rw[P,X]);have ax:=UD (Hn s<=l.length) (by rw[<-X];exact hn);have bj:=UD (Ds s l=(Ag (AF s l)).within) (by unfold Ds;rw[bo.o,decide_eq_true ax.o];rfl);clear X hn P db;go_upto_region 13 with(fail);obtain⟨wq,aq⟩:=Ue (w5.alloc (nC #[nI nX s.sort,.bool s.flag,nI .u64 0,nG s.text,nS nN 0 0,nS nN 0 0] 29))
  have HQ:Hid (Ac wq w5.heap.size (vC s.sort s.flag 0 s.text (nS nN 0 0) (nS nN 0 0)) 29):=by rw[aq];exact hZ (Ac.new w5 _ _)
  have aO:Hid (Chg w0 wq []):=by rw[aq];exact hZ (ag.o.alloc _)
  have aG:wq.heap.size=w5.heap.size+1:=by rw[aq];simp
  have ba:w0.heap.size<=w5.heap.size:=ag.o.size;rw[<-aq];obtain⟨q,hq⟩:=Ue w5.heap.size;rw[<-hq]at HQ aG ba|-;have cM:=hZ aG;have ay:=hZ ba;obtain⟨q1,q2,cm,cn,co,cp,cq,cr⟩:=Ac.cells6 HQ.o;obtain⟨s1,s2,cs,ct,cu,cv,cw,cx⟩:=Ac.cells6 (r.o.cells _ aO.o);clear aq hq aG ba;obtain⟨O,bH⟩:=Ue ((if s.sort=3 then(Cg s.bits:Int)else 0):Int);have ae:=hZ bH;clear bH;go_upto_if 58 with fail;go_cut [8]from 9 (fun _ c=>Ac c q (vC s.sort s.flag O s.text (nS nN 0 0) (nS nN 0 0)) 29/\Chg w0 c [])
  case first=>
   by_cases n:s.sort=3
   .have d3:(s.sort==3)=true:=by simp[n]
    have HE:=UD (vC 3 false (Cg s.bits) ⟨#[]⟩ (nS nN 0 0) (nS nN 0 0)=vC s.sort s.flag O s.text (nS nN 0 0) (nS nN 0 0)) (by
     have y:=t.o.2.2.1;have z:=t.o.2.2.2.2.1
     have hf:s.flag=false:=by cases h:s.flag with
      |false=>rfl
      |true=>have:=y h;omega
     have ht:s.text=Dz:=Decidable.byContradiction fun h=>by have:=z h;omega
     rw[ae.o,Qr n,n,hf,ht];rfl)
    clear n
    go_wp2_with(first
     |(go_at_call 97;refine(YM s.bits _).mono ?_;rintro e w6 ⟨rfl,a0⟩;rw[Vd HB.o.bits];have cB:=hZ a0;have cK:=hZ (HQ.o.kept a0);clear a0)
     |(refine uO (ds:=vC 3 false (Cg s.bits) ⟨#[]⟩ (nS nN 0 0) (nS nN 0 0)) cK.o xO ?_;intro p aL af))
    go_meet;exact⟨by rw[<-HE.o];exact aL.o,(aO.o.trans cB.o).step af.o (fun i hi aE=>by simp at hi;have:=ay.o;omega)⟩
   .have d3:(s.sort==3)=false:=by simp[n]
    have HE:=UD (O=0) (by rw[ae.o,Qs n]);clear n;go_wp2_with fail;go_meet;exact⟨by rw[HE.o];exact HQ.o,aO.o⟩
  case rest=>
   obtain⟨hq,d⟩:=hcut;obtain⟨p,cj⟩:=Ue wc;rw[<-cj]at hq d|-;have aS:=hZ hq;have ab:=hZ d;clear hq d cj q1 q2 cm cn co cp cq cr s1 s2 cs ct cu cv cw cx HQ;have aG:q<p.heap.size:=aS.o.lt;obtain⟨q1,q2,cm,cn,co,cp,cq,cr⟩:=Ac.cells6 aS.o;obtain⟨s1,s2,cs,ct,cu,cv,cw,cx⟩:=Ac.cells6 (r.o.cells _ ab.o);go_upto_region 15 with(fail);go_cut [8]from 9 (fun s8 c=>∃(K:Option Addr) (R:Nat) (us:List Vl) (o:Nat->Prop),s8= nS K N R/\As c (nS K N R) 6 N us/\LP c o K us/\Aq c o (l.drop D) us/\(∀b,o b->b<c.heap.size)/\(∀b,o b->F b\/p.heap.size<=b)/\Chg p c [])
   case first=>
    have cf:=Aq.kept ((m.o.trans ab.o).keepsF S.o) (fun _ h=>h) _ _ (HV.o.split D).2;have cQ:=hZ cf;have aJ:w.heap.size<=p.heap.size:=(m.o.trans ab.o).size;have bu:=hZ (HX.o.kept (m.o.trans ab.o));clear cf;by_cases aF:N=0
    .have bL:l.drop D=[]:=List.drop_of_length_le Zj;have bi:=hZ bL;have cZ:D=l.length:=Zj;clear bL;subst aF;subst cZ;have ej:l.length-l.length=0:=Zj;rcases Decidable.em (rc=l.length)with b0|b0
     .subst b0;exact xC
     .skip
      exact xC
    .have dg:0<N:=by omega
     obtain⟨a',c',e',bE⟩:=bu.o.form;injection e' with e1 _ e3
     subst e1;subst e3;obtain⟨g,rfl⟩:=bE Zj;have ce:(xs.drop (D*6)).length=N*6:=by rw[Qm,dk];omega
     have bY:∀u∈xs.drop (D*6),u.oneCell'=true:=fun u G=>cT.o u (List.mem_of_mem_drop G);have cS:=UD (∀j v,(xs.drop (D*6))[j]? =nM v->(p.alloc (nC #[] 29)).cell? ⟨g,D*6+j,nN⟩=nM v) fun j v hv=>((Chg.refl p []).alloc _).keeps (bu.o.cell rfl _ v (by rw[<-List.getElem?_drop];exact hv));have aT:=hZ ce;have cJ:=hZ bY;have ek:¬rc=D:=Zj;clear bE ce bY aF
     go_wp2_with(first
      |(at_builtin;go_loud(refine Er rfl _ _ _ rfl 29 NP 6 88 ZM underlying26 Dp rfl _ 0 [] ZN (by exact Z2 p _ 6) g (D*6) N (rc-D) (xs.drop (D*6)) ZN dg aT.o cS.o cJ.o Zj Zj ?_;intro g3 cX w3 bA cY c9)))
     go_meet
     have dz:p.heap.size<=g3:=by
      rcases c9 with h|h
      .have:p.heap.size=g3:=(by injection h);omega
      .simp at h;omega
     have aZ:Chg p w3 []:=Chg.own (sv:= nS nN 0 0) ((Chg.refl p []).alloc _) cY (fun g d=>by cases d) (fun g d=> .inr (by have:p.heap.size=g:=(by injection d);omega));rw[List.nil_append]at bA;have aU:Ba w3 (nS (nM ⟨g3,0,nN⟩) N cX) 29 6 N (xs.drop (D*6)):=by simpa using bA
     refine⟨_,_,xs.drop (D*6),fun b=>F b\/b=g3,Zh,aU.rowC aT.o,aU.rowN aT.o (fun g d=>by simp[Vl.ownBlock]at d;exact .inr d.symm), ?_, ?_, ?_,aZ⟩
     .have:=Aq.kept (aZ.keepsF (fun b a=>Q6 (S.o b a) aJ)) (fun b a=>(.inl a:F b\/b=g3)) _ _ cQ.o;rwa[Nat.mul_comm]at this
     .rintro b (a|a)
      .have:=S.o b a;have:=aZ.size;omega
      .subst a;exact aU.lt rfl
     .rintro b (a|a)
      .exact .inl a
      .exact .inr Zj
   case rest=>
    obtain⟨K,R,us,o,rfl,aX,aW,aY,aV,bC,al⟩:=hcut;obtain⟨L,bc⟩:=Ue wc;rw[<-bc]at aX aW aY aV al|-;have az:=hZ (aS.o.kept al);have ah:=hZ (ab.o.trans al);obtain⟨dl,dI,dC,dD,dE,dF,dG,dH⟩:=Ac.cells6 az.o;obtain⟨dJ,dQ,dK,dL,dM,dN,dO,dP⟩:=Ac.cells6 (r.o.cells _ ah.o);have bq:=hZ aX;have cO:=hZ aW;have br:=hZ aY;have ai:=hZ aV;have aA:=hZ bC;have cN:=hZ al
    have bZ:¬o q:=fun h=>by
     have y:=cM.o;have z:=ay.o;have n:=cW.o;rcases aA.o q h with h4|h4
     .have:=S.o q h4;omega
     .omega
    have bp:=hZ bZ;have aJ:w.heap.size<=p.heap.size:=(m.o.trans ab.o).size;clear aX aW aY aV bC al bc bZ;have dj:s.sort=5\/s.sort=6\/s.sort≠5/\s.sort≠6:=Zj;rcases dj with I|W|⟨I,W⟩
    focus
     have n:¬s.sort=3:=Zj;have da:s.keys=[]:=Decidable.byContradiction fun g=>by have:=t.o.2.2.2.2.2.2 g;omega
     have C:s.flag=false:=by
      cases h:s.flag with
      |false=>rfl
      |true=>have:=t.o.2.2.1 h;omega
     have E:s.text=Dz:=Decidable.byContradiction fun h=>by have:=t.o.2.2.2.2.1 h;omega
     have V:Hid (AF s l= .list (l.drop D)/\s.sort=5/\s.flag=false/\s.text=Dz/\O=0):=by
      unfold Hid AF CF;rw[<-aN.o,Qs Zj,Qs Zj,Qs n,Qs Zj,Qr I];exact⟨rfl,I,C,E,by rw[ae.o,Qs n]⟩
     have d5:(s.sort==5)=true:=by simp[I]
     have d6:(s.sort==6)=false:=by simp[I]
     clear I n da C E;go_upto_region 20 with(fail);obtain⟨f,Q⟩:=Ue (L.setCell ⟨q,4,nN⟩ (nS K N R))
     rw[<-Q];have aD:Chg L f [q]:=by rw[Q];exact(Chg.refl _ _).setCell _ _ Zh
     have T:=UD (Chg w0 f []) (ah.o.step aD (fun i hi aE=>by simp at hi;have:=ay.o;omega));have M:Hid (Ac f q (vC s.sort s.flag O s.text (nS K N R) (nS nN 0 0)) 29):=by rw[Q];exact hZ ((az.o.set 4 _).eq rfl)
     have aa:=UD (∀b,o b->b<f.heap.size) fun b a=>Q6 (ai.o b a) aD.size;have ar:=UD (∀b,o b->F b\/w.heap.size<=b) fun b a=>(aA.o b a).imp_right fun h=>Zj
     have B:Hid (AL f o (AF s l) (vC s.sort s.flag O s.text (nS K N R) (nS nN 0 0))):=by
      have Z:BZ o L f:=aD.keepsF ai.o (fun b a h=>by simp at a;subst a;exact bp.o h);unfold Hid;rw[V.o.1,V.o.2.1,V.o.2.2.1,V.o.2.2.2.1,V.o.2.2.2.2];simp only[AL];refine⟨K,R,nN,0,us, ?_,cO.o.kept Z (fun _ h=>h),Aq.kept Z (fun _ h=>h) _ _ br.o,by obtain⟨_,_,e,z,_⟩:=bq.o.form;injection e with _ _ e;rw[Qm];omega⟩;rw[Qm,show l.length-D=N from c0]
     clear Q aD;obtain⟨H,aj⟩:=Ue o;rw[<-aj]at aa ar B
    rotate_left
    focus
     have n:¬s.sort=3:=Zj;have dd:s.count=0:=Decidable.byContradiction fun g=>by have:=t.o.2.2.2.2.2.1 g;omega
     have cG:Hid (AF s l=D1 s.keys (l.drop D)):=by
      unfold Hid AF CF;rw[<-aN.o,Qs Zj,Qs Zj,Qs n,Qs Zj,Qs Zj]
     have aR:=UD (N=J) (by have:=aM.o;omega);have d5:(s.sort==5)=false:=by simp[W]
     have d6:(s.sort==6)=true:=by simp[W]
     clear W n dd
     have cH:=UD (∀c,Chg L c []->Cl prog 86 #[nS ka J kc,nS K N R] c (PR o s.keys (l.drop D) c)) fun c h=>by
      have bO:s.keys.length=(l.drop D).length:=by rw[Qm,<-U.o];have:=aR.o;omega
      refine Xz o s.keys (l.drop D) _ _ us c ?_ ?_ (Aq.kept (h.keepsF ai.o) (fun _ h=>h) _ _ br.o) (fun b a=>Q6 (ai.o b a) h.size) (fun k Z=>⟨List.all_eq_true.1 bk.o.symm k Z,HB.o.size k Z⟩) (by simpa using bn.o.symm) bO (by rw[<-U.o];have:=aR.o;omega)
      .rw[<-U.o];exact cD.o c ((m.o.trans ah.o).trans h)
      .rw[<-bO,<-U.o,<-aR.o];exact bq.o.kept h
     go_upto_region 20 with(first
      |(go_at_call 86;refine(cH.o _ cR).mono ?_;rintro e wm ⟨H,dv,rfl,bP,bQ,bR,ao,a9⟩;unfold D1 at ao;have bS:=ao;simp only[AL]at bS;obtain⟨bf,bg,bd,be,dR,rfl,_⟩:=bS;obtain⟨n1,bW⟩:=Ue ((LA s.keys (l.drop D)).length);obtain⟨n2,bX⟩:=Ue ((AY s.keys).length);rw[<-bW,<-bX]at ao|-;rw[Jy];clear bW bX;have dt:=hZ bP;have bl:=hZ bQ;have bm:=hZ bR;have cF:=hZ ao;have V:=hZ a9;have cL:=hZ (az.o.kept a9);clear bP bQ bR ao a9)
      |(refine uO (ds:=vC 6 false 0 Dz (nS bf n1 bg) (nS bd n2 be)) cL.o xO ?_;intro f aL af))
     have T:=UD (Chg w0 f []) ((ah.o.trans V.o).step af.o (fun i hi aE=>by simp at hi;have:=ay.o;omega));have M:=UD (Ac f q (vC 6 false 0 ⟨#[]⟩ (nS bf n1 bg) (nS bd n2 be)) 29) (aL.o.eq rfl);have dh:q<L.heap.size:=dl;have aa:=UD (∀b,H b->b<f.heap.size) fun b a=>Q6 (bm.o b a) af.o.size;have bc:p.heap.size<=L.heap.size:=cN.o.size
     have ar:=UD (∀b,H b->F b\/w.heap.size<=b) fun b a=>by
      by_cases aE:b<L.heap.size
      .exact(aA.o b (bl.o b a aE)).imp_right fun h=>Zj
      .exact .inr Zj
     have B:Hid (AL f H (AF s l) (vC 6 false 0 ⟨#[]⟩ (nS bf n1 bg) (nS bd n2 be))):=by
      unfold Hid;rw[cG.o];exact AL.kept (af.o.keepsF bm.o (fun b a h=>by simp at a;subst a;exact bp.o (bl.o _ h dh))) (fun _ h=>h) _ _ cF.o
    rotate_left
    focus
     have h8:s.count=0:=Decidable.byContradiction fun g=>I (t.o.2.2.2.2.2.1 g);have h9:s.keys=[]:=Decidable.byContradiction fun g=>W (t.o.2.2.2.2.2.2 g);have aF:N=0:=by have y:=U.o;rw[h9]at y;simp only[List.length_nil]at y;omega
     have Y:s.sort≠3->O=0:=fun g=>by rw[ae.o,Qs g]
     have C:s.sort≠2->s.flag=false:=fun g=>by cases h:s.flag with
      |false=>rfl
      |true=>exact absurd (t.o.2.2.1 h) g
     have E:s.sort≠4->s.text=Dz:=fun g=>Decidable.byContradiction fun h=>g (t.o.2.2.2.2.1 h);have bw:s.sort=1\/s.sort=2\/s.sort=3\/s.sort=4:=by have:=t.o;omega
     have B:Hid (AL L o (AF s l) (vC s.sort s.flag O s.text (nS nN 0 0) (nS nN 0 0))):=by
      unfold Hid AF CF;rcases bw with g|g|g|g
      .rw[Qr g,g,C Zj,Y Zj,E Zj];exact xS
      .rw[Qs Zj,Qr g,g,Y Zj,E Zj];exact xS
      .rw[Qs Zj,Qs Zj,Qr g,ae.o,Qr g,g,C Zj,E Zj];exact xS
      .rw[Qs Zj,Qs Zj,Qs Zj,Qr g,g,C Zj,Y Zj];exact xS
     have d5:(s.sort==5)=false:=by simp[I]
     have d6:(s.sort==6)=false:=by simp[W]
     clear h8 h9 aF Y C E bw I W;go_upto_region 20 with(fail);obtain⟨f,Q⟩:=Ue L
     obtain⟨H,aj⟩:=Ue o;have aa:=UD (∀b,H b->b<f.heap.size) (by rw[Q,aj];exact ai.o);have ar:=UD (∀b,H b->F b\/w.heap.size<=b) (by rw[aj];exact fun b a=>(aA.o b a).imp_right fun h=>Zj);have T:=ah;have M:=az;rw[<-Q]at T M B|-;rw[<-aj]at B;clear Q
    rotate_left
    all_goals
     obtain⟨so,fl,bb,tx,sa,na,ca,sb,nb,cb,M,B⟩:∃so fl bb tx sa na ca sb nb cb,Hid (Ac f q (vC so fl bb tx (nS sa na ca) (nS sb nb cb)) 29)/\Hid (AL f H (AF s l) (vC so fl bb tx (nS sa na ca) (nS sb nb cb))):=⟨_,_,_,_,_,_,_,_,_,_,M,B⟩;unfold vC at M B;have bV:=Iy (s:=s) cA.o hl HB.o bo.o ax.o;have aQ:=hZ bV;have dA:w0.heap.size<=f.heap.size:=T.o.size;have ck:=(HX.o.popK D dq).kept (m.o.trans T.o);have cU:=hZ ck
     have aB:=UD (∀c,Chg f c []->Cl prog 50 #[nA ([nI nX so,.bool fl,nI .u64 bb,nG tx,nS sa na ca,nS sb nb cb]:List Vl).toArray] c fun e w'=>e= nR (.bool (Ag (AF s l)).within)/\Chg c w' []) fun c h=>
      Ex (AF s l) H _ c aQ.o.1 aQ.o.2.1 aQ.o.2.2 (AL.kept (h.keepsF aa.o) (fun _ h=>h) _ _ B.o) (fun b a=>Q6 (aa.o b a) h.size)
     obtain⟨y1,y2,dS,dT,dU,dV,dW,dX⟩:=Ac.cells6 M.o;clear bV ck;by_cases aH:(Ag (AF s l)).within=true
     .rw[aH]at aB;go_upto_region 22 with(first|(go_at_call 50;refine(aB.o _ xP).mono ?_;rintro e wz ⟨rfl,am⟩;have aP:=hZ am;have cV:=hZ (M.o.kept am);obtain⟨dY,ei,d0,d9,ea,ec,ee,eg⟩:=Ac.cells6 cV.o;clear am))
      go_region_law(first
       |(go_loud(refine Bw rfl _ _ _ rfl 29 NP 6 88 ZM underlying26 Dp rfl (nS ra D rc) D (xs.take (D*6)) ZN (by exact(cU.o.kept aP.o).kept (bs:=[]) xP Zh) wz.heap.size [nI nX so,.bool fl,nI .u64 bb,nG tx,nS sa na ca,nS sb nb cb] ZN ZN (by exact Cm _ _ _) (by intro u G;simp only[Qh,List.not_mem_nil,or_false]at G;rcases G with rfl|rfl|rfl|rfl|rfl|rfl<;>rfl) Zj Zj ?_;intro g8 du w8 bB bx bz;have cE:=hZ bB;have cy:=hZ bx;have cC:=hZ bz;clear bB bx bz)))
      all_goals
       go_wp2_with fail;go_ret2;have dB:=aP.o.size
       exact IC (bj.o.trans aH) HX.o HV.o S.o HO.o aN.o (m.o.trans T.o) B.o aa.o ar.o cE.o (((aP.o.alloc _).drew.none _).trans cy.o) (by
        rcases cC.o with h|h
        .exact .inl h
        .simp at h;exact .inr Zj)
     .have ci:(Ag (AF s l)).within=false:=by simpa using aH
      rw[ci]at aB;clear aH;go_wp2_with(first|(go_at_call 50;refine(aB.o _ xP).mono ?_;rintro e wz ⟨rfl,am⟩));go_ret2;exact Kz (by rw[bj.o,ci];decide) ZM ((m.o.trans T.o).trans am)
theorem xJ(h:p:=by
 have j:a[p]?.getD undef= nP (nM ⟨g,0,nN⟩):=by simpa using i
 have k:=run_loadVar_row (P:=P) w g T b cs.toArray (0,0) d e l f (by simpa using hi);simp[results,h,j,asAddr,k]):p:=h
theorem DN{P:Program}{c:Func}{p:Tmp}{b:Ti}(h:c.results=#[.cell p b,.tmp q,.tmp r])(a:Array Vl)(w:Wl)(g:Nat)(T:Ti)(cs:List Vl)(d:TypeDesc)(i:a.getD p undef= nP (nM ⟨g,0,nN⟩))(e:Ac w g cs T)(l:P.underlying b=nM d)(f:(match d with| .struct _| .array _ _=>true|_=>false)=true)(hi:(P.info? b).map (·.size)=nM cs.length):
  (results c a).run P w= .ok (nT #[nA cs.toArray,a.getD q undef,a.getD r undef]) w:=by
 exact xJ
theorem uR{b:Func}{p:Tmp}{a:Array Vl}(d:Ac w g cs T)(h:b.results=#[.cell p T,.tmp q,.tmp r]:=by rfl)[c:Nonempty (vG T)](e:cs.length=vH T:=by rfl)(i:a.getD p undef= nP (nM ⟨g,0,nN⟩):=by rfl):(results b a).run prog w= .ok (nT #[nA cs.toArray,a.getD q undef,a.getD r undef]) w:=by
 obtain⟨⟨⟨f,j⟩,hi⟩⟩:=c;exact DN h a w g T cs _ i d j rfl (by rw[e];exact hi)
def zV:List Vl:=[nI nX 0,.bool false,nI .u64 0,nG ⟨#[]⟩,nS nN 0 0,nS nN 0 0]
def Eu(l:List Ap)(w:Wl)(e:Ending)(w':Wl):Prop:=
 (match(if l.length<=65536 then CA l else nN)with
  |some t=>∃(F:Nat->Prop) (cs:List Vl),e= nR (nT #[nA cs.toArray,nI nX 0,nI nX 0])/\AL w' F t cs/\(∀b,F b->w.heap.size<=b/\b<w'.heap.size)/\(Ag t).within=true
  |none=>∃(k a:Int),k≠0/\e= nR (nT #[nA zV.toArray,nI nX k,nI nX a]))/\Chg w w' []
theorem xD(h:p:=by intro u n;simp only[zV,Qh,List.not_mem_nil,or_false]at n;rcases n with rfl|rfl|rfl|rfl|rfl|rfl<;>rfl):p:=h
theorem Vo(l:List Ap)(sl:Vl)(xs:List Vl)(w:Wl)(Z:As w sl 6 l.length xs)(hS:Az w l xs)(q:∀s∈l,Di s)(hl:l.length<=4294967296):
  Cl prog 29 #[sl] w (Eu l w):=by
 obtain⟨a,c,rfl,aW,_⟩:=Z.form;have HR:=hZ Z;have HS:=hZ hS;have HB:=hZ q;obtain⟨w0,L⟩:=Ue (w.alloc (nC #[nI nX 0,.bool false,nI .u64 0,nG ⟨#[]⟩,nS nN 0 0,nS nN 0 0] 29));have U:Hid (Ac w0 w.heap.size zV 29):=by rw[L];exact hZ (Ac.new w _ _)
 have G:Hid (Chg w w0 []):=by rw[L];exact hZ ((Chg.refl w []).alloc _)
 have aC:w0.heap.size=w.heap.size+1:=by rw[L];simp
 have HZ:=hZ aC;have HW:=hZ L;clear Z hS q L aC;by_cases K:l.length<=65536
 .go_enter func29,ntmps29;go_wp2_with fail;rw[<-HW.o];go_loopw [5,6] (fun v5 v6 wr=>∃(i:Nat) (row:List Tr) (F:Nat->Prop),i<=l.length/\v6= nI nX i/\DS [] (l.take i)=nM row/\Zk wr F v5 row/\Chg w0 wr []/\(∀g,v5.ownBlock=nM g->w0.heap.size<=g)/\∀b,F b->w0.heap.size<=b) (fun _ v6 _=>l.length-(intOf v6).toNat)
  case atStart=>exact⟨0,[],fun _=>False,Zj,rfl,by simp[DS],⟨[],Ba.nil _ _ _,by simp[Aq],fun _ h=>h.elim,fun g m=>by cases m⟩,Chg.refl _ _,fun g m=>(by cases m),fun _ h=>h.elim⟩
  case round=>
   obtain⟨B,rfl⟩:=Ue wr;obtain⟨i,row,F,hi,rfl,y,ax,m,ho,aq⟩:=hrel;have T:=hZ aq;have ab:=Jq (row:=[]) (fun _ h=>by cases h) y;have af:row.length<=65536:=by have:=ab.2;rw[Ql]at this;simp at this;omega
   have z:=hZ m;have X:=hZ y;have W:=hZ ax;have HO:=hZ ho;have S:=hZ ab.1;have Y:=U.o.kept m;have V:=hZ Y;obtain⟨x1,x2,aP,aQ,aR,aS,aT,aU⟩:=Ac.cells6 Y;obtain⟨xr,A,_,_,_⟩:=ax;obtain⟨ra,rc,rfl,_⟩:=A.form;have aM:=A.capLe.2;clear y m ho ab A Y aq;by_cases ar:i<l.length
   .obtain⟨s,J⟩:∃s,l[i]? =nM s:=⟨_,Q9 ar⟩;have O:s∈l:=Qi J;obtain⟨sk,ah,ag⟩:=HS.o.get i s J;obtain⟨b,o,rfl,aa⟩:=HR.o.base Zj ZM
    have d:∀j v,(AI s sk)[j]? =nM v->B.cell? ⟨b,o+i*6+j,nN⟩=nM v:=fun j v hv=>by
     rw[Nat.add_assoc];exact(G.o.trans z.o).keeps (aa _ v (ag j v hv))
    have c0:=d 0 _ rfl;have c1:=d 1 _ rfl;have c2:=d 2 _ rfl;have c3:=d 3 _ rfl;have c4:=d 4 _ rfl;have c5:=d 5 _ rfl;rw[Nat.add_zero]at c0;have N:=ah.kept (G.o.trans z.o);by_cases I:Ds s row=true
    .have ae:=KE X.o J;rw[Qr I]at ae;have R:=UD (Cl prog 52 #[nS ra row.length rc,nA #[nI nX s.sort,.bool s.flag,nI .u64 s.bits,nG s.text,nI nX s.count,sk]] B (Y5 F (NW row s) (nS ra row.length rc) B)) ((uQ row F _ s sk B W.o N (HB.o s O) S.o af).mono fun e w' h=>by unfold GE at h;rwa[Qr I]at h);have aG:=hZ ae;clear ae I J O ah ag aa d N;go_wp2_with(first|(go_at_call 52;refine R.o.mono ?_;rintro e w3 ⟨⟨aZ,F3,rfl,al,ak,aj⟩,H⟩;have aD:=hZ aj;have aJ:=hZ al;have aH:=hZ ak;have Q:=hZ H;clear al ak H aj));go_roundw
     case rel=>
      refine⟨i+1,NW row s,F3,Zj,by go_num,aG.o,aJ.o,z.o.step Q.o (fun k x ar=>by have:=HO.o k (by simpa using x);omega),fun g m=> ?_,fun g m=> ?_⟩
      .rcases aH.o g m with h|h
       .exact HO.o g h
       .exact Q7 z.o.size h
      .exact(aD.o g m).elim (T.o g) (fun h=>Q7 z.o.size h)
     case measure=>simp[intOf];omega
    .have ao:Ds s row=false:=by simpa using I
     have aw:=Oz X.o J ao;have f:(if l.length<=65536 then CA l else nN)=nN:=by rw[Qr K];unfold CA;rw[aw]
     have C:=hZ f;have R:=UD (Cl prog 52 #[nS ra row.length rc,nA #[nI nX s.sort,.bool s.flag,nI .u64 s.bits,nG s.text,nI nX s.count,sk]] B (Wf B)) ((uQ row F _ s sk B W.o N (HB.o s O) S.o af).mono fun e w' h=>by unfold GE at h;rwa[Qs I]at h);clear aw f I ao J O ah ag aa d N
     go_wp2_with(first
      |(go_at_call 52;refine R.o.mono ?_;rintro e w3 ⟨⟨v3,k3,ad,rfl⟩,H⟩;have aF:=hZ ad;have aY:(k3==0)=false:=(by rw[Qq];exact ad);have aI:=hZ (V.o.kept H);have Q:=hZ H;clear H ad)
      |(refine Ae rfl _ _ _ rfl w.heap.size zV ZN ZN _ _ aI.o A9 rfl xD ?_;intro w9 E D p;clear E))
     refine bodyPost_ret (uR D) rfl ?_;unfold Eu;rw[C.o];exact⟨⟨_,_,aF.o,rfl⟩,((G.o.trans z.o).trans Q.o).fresh p (fun k x=>by simp at x;omega)⟩
   .obtain rfl:i=l.length:=by omega
    have y:=X.o;rw[Qn (Q8 _)]at y;by_cases M:row.length=1
    .obtain⟨t,rfl⟩:∃t,row=[t]:=by
      match row,M with
      |[t],_=>exact⟨t,rfl⟩
     have f:(if l.length<=65536 then CA l else nN)=nM t:=by rw[Qr K];unfold CA;rw[y]
     have C:=hZ f;obtain⟨xr,A,aB,aA,aO⟩:=W.o;obtain⟨a',c',e',am⟩:=A.form;injection e' with e1 _ e3
     subst e1;subst e3;obtain⟨g,rfl⟩:=am Zh;simp only[Aq]at aB;obtain⟨cs,r,rfl,P,rfl⟩:=aB;have aN:=P.uni;obtain⟨la,lc,ka,kc,a0,rfl,_⟩:=aN;obtain⟨so,ay⟩:=Ue (((Aa t).sort:Int));obtain⟨fl,ap⟩:=Ue ((Aa t).flag);obtain⟨bi,an⟩:=Ue (((Aa t).bits:Int));obtain⟨tx,az⟩:=Ue ((Aa t).text);obtain⟨n1,au⟩:=Ue ((Ab t).length);obtain⟨n2,av⟩:=Ue ((Aa t).keys.length);rw[<-ay,<-ap,<-an,<-az,<-au,<-av]at A P;have d:∀j v,(vC so fl bi tx (nS la n1 lc) (nS ka n2 kc))[j]? =nM v->B.cell? ⟨g,j,nN⟩=nM v:=fun j v hv=>A.cell rfl j v (by rw[List.append_nil];exact hv);have c0:=d 0 _ rfl;have c1:=d 1 _ rfl;have c2:=d 2 _ rfl;have c3:=d 3 _ rfl;have c4:=d 4 _ rfl;have c5:=d 5 _ rfl;have aK:=hZ P;have ai:=hZ aA;have aE:Hid ((Ag t).within=true):=S.o t Zh;simp only[Qj,List.length_nil]at aM af|-;clear d A P aA aO am ay ap an az au av M y f
     go_wp2_with(first
      |(refine Ae rfl _ _ _ rfl w.heap.size (vC so fl bi tx (nS la n1 lc) (nS ka n2 kc)) ZN ZN _ _ V.o A9 rfl (by intro u n;simp only[vC,Qh,List.not_mem_nil,or_false]at n;rcases n with rfl|rfl|rfl|rfl|rfl|rfl<;>rfl) ?_;intro w9 E D p;clear E))
     refine bodyPost_ret (uR D) rfl ?_;unfold Eu;rw[C.o]
     have aL:∀b,F b->b≠w.heap.size:=fun b q=>by
      have:=T.o b q;have:=HZ.o;omega
     exact⟨⟨F,_,rfl,AL.kept (p.keepsF ai.o (fun b q h=>aL b h (by simpa using q))) (fun _ h=>h) _ _ aK.o,fun b q=>⟨by have:=T.o b q;have:=HZ.o;omega,Q6 (ai.o b q) p.size⟩,aE.o⟩,(G.o.trans z.o).fresh p (fun k x=>by simp at x;omega)⟩
    .have f:(if l.length<=65536 then CA l else nN)=nN:=by
      rw[Qr K];unfold CA;rw[y];match row,M with
      |[],_=>rfl
      |[t],h=>exact absurd rfl h
      |_::_::_,_=>rfl
     have C:=hZ f;have aV:((row.length:Int)==1)=false:=by rw[Qq];omega
     clear f y M
     go_wp2_with(first
      |(refine Ae rfl _ _ _ rfl w.heap.size zV ZN ZN _ _ V.o A9 rfl xD ?_;intro w9 E D p;clear E))
     refine bodyPost_ret (uR D) rfl ?_;unfold Eu;rw[C.o];exact⟨⟨_,_,ZM,rfl⟩,(G.o.trans z.o).fresh p (fun k x=>by simp at x;omega)⟩
 .have f:(if l.length<=65536 then CA l else nN)=nN:=Qs K;have C:=hZ f;have aX:(65536:Int)<(l.length:Int):=Zj;obtain⟨x1,x2,aP,aQ,aR,aS,aT,aU⟩:=Ac.cells6 U.o;clear f K;go_enter func29,ntmps29;go_upto_region 1 with(fail);rw[<-HW.o]
  go_wp2_with(first
   |(refine Ae rfl _ _ _ rfl w.heap.size zV ZN ZN _ _ U.o A9 rfl xD ?_;intro w9 E D p;clear E))
  refine bodyPost_ret (uR D) rfl ?_;unfold Eu;rw[C.o];exact⟨⟨_,_,ZM,rfl⟩,G.o.fresh p (fun k x=>by simp at x;omega)⟩
end
section
open _root_.Go.Proofs.Tryz
open Go Go.RowKit Tree Ptr
theorem Zx{ks:List BY}{k:BY}(h:k∈ks):k.size<=Ay ks:=by
 obtain⟨i,hi⟩:=List.mem_iff_getElem?.1 h;have:=IW hi;omega
theorem Z4:Dz.size=0:=rfl
theorem Ez{t:Tr}(h:Av t)(d:(Ag t).within=true):Di (Aa t).toI:=by
 have c:=Ar d;have hi:=Bj t;cases t with
 |num b=>simp only[Av]at h;exact⟨h.1,by show(0:Nat)<=_;omega,by simp[Aa,Aw.toI],by simp[Aa,Aw.toI],by simp[Aa,Aw.toI,Ay],by simp[Aa,Aw.toI]⟩
 |text s=>simp only[Av]at h;exact⟨by simp[Aa,Aw.toI],by simp only[Aa,Aw.toI];omega,by simp[Aa,Aw.toI],by simp[Aa,Aw.toI],by simp[Aa,Aw.toI,Ay],by simp[Aa,Aw.toI]⟩
 |obj ks l=>
  simp only[Av]at h;simp only[Ab]at hi;have e:Ay ks<=2097152:=by simp only[Ag,Sz.over]at c;omega
  refine⟨by simp[Aa,Aw.toI],by show(0:Nat)<=_;omega,by simp only[Aa,Aw.toI];omega,fun k a=> ?_,by simp only[Aa,Aw.toI];omega,by simp[Aa,Aw.toI]⟩;have:=Zx a;simp only[Aa,Aw.toI]at a this|-;omega
 |list l=>
  simp only[Ab]at hi;exact⟨by simp[Aa,Aw.toI],by show(0:Nat)<=_;omega,by simp[Aa,Aw.toI],by simp[Aa,Aw.toI],by simp[Aa,Aw.toI,Ay],by simp only[Aa,Aw.toI];omega⟩
 |flag b=>exact⟨by simp[Aa,Aw.toI],by show(0:Nat)<=_;omega,by simp[Aa,Aw.toI],by simp[Aa,Aw.toI],by simp[Aa,Aw.toI,Ay],by simp[Aa,Aw.toI]⟩
 |null=>exact⟨by simp[Aa,Aw.toI],by show(0:Nat)<=_;omega,by simp[Aa,Aw.toI],by simp[Aa,Aw.toI],by simp[Aa,Aw.toI,Ay],by simp[Aa,Aw.toI]⟩
mutual
theorem xF{p:Prop}(h:p:=by simp only[Ai,List.mem_singleton]at hs;subst hs;exact Ez h hw):p:=h
theorem xL{p:Prop}(h:p:=by
 simp only[Ai,Qf,List.mem_singleton]at hs;rcases hs with hs|hs
 .exact PG l (fun u hu=>⟨h.items u hu,C8 hw hu⟩) s hs
 .subst hs;exact Ez h hw):p:=h
theorem Uy:∀(t:Tr),Av t->(Ag t).within=true->∀s∈Ai t,Di s.toI
 | .null,h,hw,s,hs=>xF
 | .flag _,h,hw,s,hs=>xF
 | .num _,h,hw,s,hs=>xF
 | .text _,h,hw,s,hs=>xF
 | .list l,h,hw,s,hs=>by
  exact xL
 | .obj ks l,h,hw,s,hs=>by
  exact xL
theorem PG:∀(l:List Tr),(∀u∈l,Av u/\(Ag u).within=true)->∀s∈BI l,Di s.toI
 |[],_,s,hs=>by simp[BI]at hs
 |t::l,h,s,hs=>by
  simp only[BI,Qf]at hs;rcases hs with hs|hs
  .exact Uy t (h t Zh).1 (h t Zh).2 s hs
  .exact PG l (fun u hu=>h u (by simp[hu])) s hs
end
variable{t:Tr}{w:Wl}
theorem KI(h:Bt t):∀s∈MW t,Di s:=fun s a=>by
 unfold MW at a;obtain⟨p,b,rfl⟩:=List.mem_map.1 a;exact Uy t h.good h.fits p b
theorem Ju(t:Tr):(MW t).length=(Ag t).nodes:=by unfold MW;rw[List.length_map,BL]
def F9(t:Tr)(w:Wl)(e:Ending)(w':Wl):Prop:=
 ∃(F:Nat->Prop) (a:Nat),e= nR (nT #[nP (nM ⟨a,0,nN⟩),.nilIface])/\CG w' F a t/\(∀b,F b->b<w'.heap.size)/\Chg w w' []/\(∀b,F b->w.heap.size<=b)/\w.heap.size<=a
theorem BO.steps(h:Bt t){w':Wl}{e:Ending}(a:BO (MW t) w e w'):F9 t w e w':=by
 unfold BO at a;have b:=FE h.good h.fits;unfold AS at b;have j:MW t=(Ai t).map Aw.toI:=rfl;rw[j,b]at a;obtain⟨⟨F,k,c,d,f,_,i⟩,g⟩:=a;exact⟨F,k,c,d,f,g,i⟩
theorem ZC{v:Vl}{bs:List Nat}(h:Bt t)(d:AP w t v bs):Cl prog 25 #[v] w (F9 t w):=by
 obtain⟨u,x,rfl⟩:=d.iface;have l:=UD (∀a,Chg w a []->∃f args,(callMethod (nF u x) EB #[nS nN 0 0]).run prog a= .ok (.enter f args) a/\Cl prog f args a fun e w'=>∃sv,e= nR sv/\LN t a sv w') fun a J=>Le h.good h.fits (d.chg J Zh);obtain⟨f,args,o,n⟩:=l.o w cR;have z:=hZ n;have B:=hZ o;have L:=hZ h;have M:=(Ar h.fits).1;have k:=Ju t
 have y:=UD (∀(a:Wl) (sv:Vl) (xs:List Vl),Ba a sv 55 6 (Ag t).nodes xs->Az a (MW t) xs->Cl prog 16 #[sv] a (F9 t a)) fun a sv xs g c=>
  (Fk (MW t) sv xs a (by rw[k];exact g.rowC (by rw[c.length,k])) c (KI h) (by rw[k];omega)).mono fun e w' d=>BO.steps h d
 clear n o d h l;go_enter func25,ntmps25
 go_wp2_with(first
  |(refine Ft rfl _ _ _ _ rfl (nF u x) (nS nN 0 0) ZN ZN f args B.o _ z.o ?_;rintro e N ⟨sv,rfl,j⟩;refine⟨_,rfl, ?_⟩;obtain⟨G,xs,g,c,_⟩:=j.ex;have A:=hZ g;have C:=hZ c;have i:=hZ j.chg;clear j g c)
  |(go_at_call 16;refine(y.o _ sv xs A.o C.o.toR).mono ?_;rintro e w2 ⟨F,K,rfl,p,q,r,s⟩;have D:=hZ p;have E:=hZ q;have H:=hZ r;have m:=hZ s;clear p q r s))
 refine bodyPost_ret (results_tmp2 rfl _ _ _) rfl ⟨F,K,Zh,D.o,E.o,(by exact cg (i.o.trans H.o)),fun b I=>Q7 i.o.size (m.o.1 b I),Q7 i.o.size m.o.2⟩
end
section
open _root_.Go.Proofs.Tryz
open Go Go.Shelf Go.RowKit Go.Lib Tree Ptr
variable{p q:Tmp}
theorem Gn{P:Program}{c:Func}{b:Ti}(h:c.results=#[.cell p b,.tmp q])(a:Array Vl)(w:Wl)(g:Nat)(T:Ti)(cs:List Vl)(d:TypeDesc)(i:a.getD p undef= nP (nM ⟨g,0,nN⟩))(e:Ac w g cs T)(l:P.underlying b=nM d)(f:(match d with| .struct _| .array _ _=>true|_=>false)=true)(hi:(P.info? b).map (·.size)=nM cs.length):
  (results c a).run P w= .ok (nT #[nA cs.toArray,a.getD q undef]) w:=by
 exact xJ
theorem uS{b:Func}{a:Array Vl}{w:Wl}{g:Nat}{T:Ti}{cs:List Vl}(d:Ac w g cs T)(h:b.results=#[.cell p T,.tmp q]:=by rfl)[c:Nonempty (vG T)](e:cs.length=vH T:=by rfl)(i:a.getD p undef= nP (nM ⟨g,0,nN⟩):=by rfl):(results b a).run prog w= .ok (nT #[nA cs.toArray,a.getD q undef]) w:=by
 obtain⟨⟨⟨f,j⟩,hi⟩⟩:=c;exact Gn h a w g T cs _ i d j rfl (by rw[e];exact hi)
def ZY(r:Option Tr)(w:Wl)(e:Ending)(w':Wl):Prop:=(match r with
 |some t=>∃(F:Nat->Prop) (cs:List Vl),e= nR (nT #[nA cs.toArray,.bool true])/\AL w' F t cs/\(∀b,F b->w.heap.size<=b/\b<w'.heap.size)/\(Ag t).within=true
 |none=>e= nR (nT #[nA zV.toArray,.bool false]))/\Chg w w' []
theorem XX{xs us:List Vl}{i:Nat}(b:us.length=6)(h:∀j v,us[j]? =nM v->xs[i*6+j]? =nM v):xs.take ((i+1)*6)=xs.take (i*6)++us:=by
 rw[show(i+1)*6=i*6+6 from by omega,List.take_add]
 congr 1
 apply List.ext_getElem?;intro j;rw[List.getElem?_take,List.getElem?_drop];by_cases a:j<6
 .rw[Qr a,Q9 (by omega:j<us.length)];exact h j _ (Q9 Zj)
 .rw[Qs a,List.getElem?_eq_none Zj]
theorem Mz(h:Int)(g:Bool)(f:Int)(i:BY)(a b:Option Addr)(n c m d:Nat):∀u∈vC h g f i (nS a n c) (nS b m d),u.oneCell'=true:=by
 intro u e;simp only[vC,Qh,List.not_mem_nil,or_false]at e;rcases e with rfl|rfl|rfl|rfl|rfl|rfl<;>rfl
theorem Vq(l:List Ap)(sl:Vl)(xs:List Vl)(w:Wl)(T:As w sl 6 l.length xs)(hS:Az w l xs)(c:∀s∈l,Di s)(J:l.length<=4294967296):
  Cl prog 15 #[sl] w (ZY (AS l) w):=by
 obtain⟨sa,sc,rfl,aA,ao⟩:=T.form;have HR:=hZ T;have HS:=hZ hS;have ar:=hZ c;have aa:=hZ ao;obtain⟨n,X⟩:=Ue l.length;have A:=hZ X;have aw:=hZ J;rw[<-X]at J|-;clear T hS c X ao aA;go_enter func15,ntmps15;go_wp2_with fail;obtain⟨w0,K⟩:=Ue (w.alloc (nC #[nI nX 0,.bool false,nI .u64 0,nG ⟨#[]⟩,nS nN 0 0,nS nN 0 0] 29));have H0:Hid (Chg w w0 []):=by rw[K];exact hZ ((Chg.refl w []).alloc _)
 have aq:Hid (Ac w0 w.heap.size zV 29):=by rw[K];exact hZ (Ac.new w zV _)
 rw[<-K];clear K;go_loopw [5,4] (fun v5 v4 wr=>∃(i:Nat) (q:Option Addr) (cap:Nat),i<=n/\v5= nI nX i/\v4= nS q i cap/\Ba wr v4 82 6 i (xs.take (i*6))/\Ac wr w.heap.size zV 29/\Chg w wr []/\(∀g,v4.ownBlock=nM g->w.heap.size<g)) (fun v5 _ _=>n-(intOf v5).toNat)
 case atStart=>exact⟨0,nN,0,Zj,rfl,rfl,by rw[Nat.zero_mul,List.take_zero];exact Ba.nil _ _ _,aq.o,H0.o,fun g p=>by cases p⟩
 case round=>
  obtain⟨i,q,cap,hi,rfl,rfl,hL,U,hc,am⟩:=hrel;have HL:=hZ hL;have O:=hZ U;have z:=hZ hc;have R:=hZ am;have lR:w.heap.size<wr.heap.size:=U.lt;clear hL U hc am;by_cases aD:i<n
  .obtain⟨s,hs⟩:∃s,l[i]? =nM s:=⟨_,Q9 (by have:=A.o;omega)⟩;obtain⟨b,o,rfl,ai⟩:=HR.o.base (by have:=A.o;omega) ZM;obtain⟨sk,an,Z⟩:=Az.get HS.o i s hs;obtain⟨x,y,rfl,_⟩:=an.form;have m:∀j v,(AI s (nS x s.keys.length y))[j]? =nM v->wr.cell? ⟨b,o+i*6+j,nN⟩=nM v:=fun j v r=>z.o.keeps (by rw[Nat.add_assoc];exact ai _ v (Z j v r));have c0:=m 0 _ rfl;have c1:=m 1 _ rfl;have c2:=m 2 _ rfl;have c3:=m 3 _ rfl;have c4:=m 4 _ rfl;have c5:=m 5 _ rfl;rw[Nat.add_zero]at c0;have ay:=hZ (XX (xs:=xs) (i:=i) (us:=AI s (nS x s.keys.length y)) rfl Z);clear hs an Z m ai;go_wp2_with((at_builtin;go_loud(refine Bg rfl _ _ _ rfl 82 Iq 6 72 ZM underlying80 GO rfl (nS q i cap) i (xs.take (i*6)) ZN (by exact HL.o.kept (bs:=[]) xP Zh) (wr.heap.size+1) (AI s (nS x s.keys.length y)) ZN rfl (by intro j v r;exact((BD _ _ (AI s (nS x s.keys.length y)) 82 _ rfl Zh).cell j).trans r) (C0 _ _ _ _) Zj Zj ?_);intro g aB w7 ag af ah;have av:=hZ ag;have au:=hZ af;have ax:=hZ ah;clear ag af ah));go_roundw
   case rel=>
    have aj:Chg wr w7 (Vl.slice q i cap).ownBlock.toList:=Chg.step (b:=_) (bs:=(Vl.slice q i cap).ownBlock.toList) xP au.o (fun i hi J=>hi);refine⟨i+1,_,_,Zj,by go_num,rfl,by rw[ay.o];exact av.o,O.o.kept aj (fun W=> ?_),z.o.fresh aj (fun g p=>Nat.le_of_lt (R.o g (by simpa using p))),fun g2 G=> ?_⟩
    .have:=R.o _ (by simpa using W);omega
    .simp[Vl.ownBlock]at G;subst G;rcases ax.o with h|h
     .exact R.o _ h
     .rw[h];simp;omega
   case measure=>simp[intOf];omega
  .obtain rfl:i=n:=by omega
   have ap:xs.take (i*6)=xs:=Qn (by have:=aa.o;have:=A.o;omega);have S:=HL.o;rw[ap]at S;have Y:=S.rowC (by have:=aa.o;have:=A.o;omega);rw[A.o]at Y;have d:=Vo l _ xs wr Y (Az.kept z.o HS.o) ar.o aw.o;have e0:(if l.length<=65536 then CA l else nN)=AS l:=rfl;unfold Eu at d;rw[e0,<-A.o]at d;clear S Y ap e0;cases C:AS l with
   |none=>
    rw[C]at d;have N:=hZ d;have P:=hZ C;clear d C;go_wp2_with fail;refine N.o.mono ?_;rintro e H ⟨⟨k,a,hk,rfl⟩,B⟩;have D:=hZ B;have aC:(k==0)=false:=by simpa using hk
    clear B
    go_wp2_with(first
     |(refine kM H (Mz 0 false 0 ⟨#[]⟩ nN nN 0 0 0 0) ?_;intro w2 L f)
     |(refine uN L.o ?_)
     |(refine uO ((O.o.kept D.o).kept f.o) (Mz 0 false 0 ⟨#[]⟩ nN nN 0 0 0 0) ?_;intro w3 M E))
    refine bodyPost_ret (uS M.o) rfl ?_;rw[P.o];exact⟨rfl,(z.o.trans (D.o.trans f.o)).fresh E.o (fun g p=>by simp at p;omega)⟩
   |some t=>
    rw[C]at d;have N:=hZ d;have P:=hZ C;clear d C
    go_wp2_with(first
     |(go_at_call 29;refine N.o.mono ?_;rintro e H ⟨⟨F,cs,rfl,r,hF,hw⟩,B⟩;have D:=hZ B;have Q:=hZ hF;have az:=hZ hw;have HV:=hZ r;obtain⟨la,lc,x,y,ys,rfl,_⟩:=r.uni;have I:(prog.info? 29).map (·.size)=nM (vC (Aa t).sort (Aa t).flag (Aa t).bits (Aa t).text (nS la (Ab t).length lc) (nS x (Aa t).keys.length y)).length:=A9;generalize V:vC (Aa t).sort (Aa t).flag (Aa t).bits (Aa t).text (nS la (Ab t).length lc) (nS x (Aa t).keys.length y)=cs at*;have ab:∀u∈cs,u.oneCell'=true:=(by rw[<-V];exact Mz _ _ _ _ _ _ _ _ _ _);have al:cs.length=6:=(by rw[<-V];rfl);clear B V r hF hw)
     |(refine Ae rfl _ _ _ rfl H.heap.size cs ZN ZN 29 zV (BD _ _ zV _ _ rfl rfl) I (by rw[al];rfl) ab ?_;intro w2 aE ad G;have L:=hZ ad;have f:=UD (Chg H w2 []) (Chg.step (b:=_) xP G (fun i hi J=>by simp at hi;omega));clear ad G)
     |(refine Bp rfl _ _ rfl H.heap.size ZN 29 cs (by exact L.o) _ underlying29 rfl I ?_)
     |(refine Ae rfl _ _ _ rfl w.heap.size cs ZN ZN 29 zV ((O.o.kept D.o).kept f.o) I (by rw[al];rfl) ab ?_;intro w3 aF ae ak;have M:=hZ ae;have E:=hZ ak;clear ae ak))
    refine bodyPost_ret (Gn rfl _ _ w.heap.size 29 cs _ rfl M.o underlying29 rfl I) rfl ?_;rw[P.o];have hz:=z.o.size;refine⟨⟨F,cs,rfl,AL.kept (((f.o.none [w.heap.size]).trans E.o).keepsF (fun b c=>(Q.o b c).2) (fun b c W=> ?_)) (fun _ h=>h) _ _ HV.o,fun b c=> ?_,az.o⟩,(z.o.trans (D.o.trans f.o)).fresh E.o (fun g p=>by simp at p;omega)⟩
    .simp at c;subst c;have:=(Q.o _ W).1;omega
    .have B:=Q.o b c;have h2:=f.o.size;have h3:=E.o.size;omega
end
end Go.Proofs.YtpdnhfkacgdocaaGreatDoor

/- Part 13 of the proof of patchFresh_card. -/
import Derived.Test.YtamgbmcchhmojaaGreatDoorM08
import Derived.Test.YtamgbmcchhmojaaGreatDoorM12
set_option maxRecDepth 100000
set_option maxHeartbeats 32000000
set_option linter.all false
namespace Go.Proofs.YtamgbmcchhmojaaGreatDoor
open Go renaming Calls->Cl,TypeId->Ti,Value->Vl,World->Wl
open Go.Value renaming agg->nA,iface->nF,int->nI,pointer->nP,slice->nS,string->nG,tuple->nT
open Go.IntKind renaming i64->nX
open Go.Ending renaming returned->nR
open Go.Obj renaming cells->nC
open Option renaming none->nN,some->nM
section
open _root_.Go.Proofs.Tryz
open Go Go.Shelf Go.RowKit Go.Lib Go.Sort Tree Ptr
variable{a:Type}
theorem QP:(prog.info? 66).map (fun i=>(i.zero,i.size,i.bytes))=nM (nM .nilIface,1,16):=Yb
def Zr:Option (Ti×Vl)->Vl
 |none=> .nilIface
 |some (t,x)=> nF t x
theorem QF:∀{vs:List Vl},(∀v∈vs,∃t x,v= nF t x)->∃l:List (Option (Ti×Vl)),l.map Zr=vs
 |[],_=>⟨[],rfl⟩
 |v::vs,h=>by
  obtain⟨l,a⟩:=QF (vs:=vs) fun u b=>h u (by simp[b]);obtain⟨t,x,rfl⟩:=h v Zh;exact⟨nM (t,x)::l,by rw[List.map_cons,a];rfl⟩
theorem L0(l:List a)(i:Nat)(z:a)(hi:i<l.length):(l.take i++l.drop (i+1)++List.replicate (i+1-i) z).take (l.length-1)=l.eraseIdx i:=by
 rw[List.eraseIdx_eq_take_drop_succ];have b:(l.take i++l.drop (i+1)).length=l.length-1:=by rw[Qk,Ql,Qm];omega
 rw[List.take_append_of_le_length Zj,Qn Zj]
theorem LZ(l:List a)(i:Nat)(z:a)(hi:i<l.length):(l.take i++l.drop (i+1)++List.replicate (i+1-i) z).length=l.length:=by
 simp only[Qk,Ql,Qm,List.length_replicate];omega
theorem Oi{b:Type}(f:a->b)(l:List a)(i:Nat):(l.eraseIdx i).map f=(l.map f).eraseIdx i:=by
 rw[List.eraseIdx_eq_take_drop_succ,List.eraseIdx_eq_take_drop_succ,List.map_append,List.map_take,List.map_drop]
theorem Jc[Inhabited a](enc:a->Vl)(w:Wl)(n g:Nat)(d:Array a):Chg w (putRow enc (Sort.ahead w n) g 0 d) [g]:=by
 refine⟨rfl,rfl,rfl,by simp[putRow,mapBlock,Sort.ahead],fun k c b=> ?_⟩;have:g≠k:=fun e=>b (by simp[e]);simp[putRow,mapBlock,Sort.ahead,Array.getElem?_modify,this]
theorem QD(g c i:Nat)(ks:List BY)(w:Wl)(t:AK w (nS (nM ⟨g,0,nN⟩) ks.length c) 9 (Ad ks))(hi:i<ks.length):
  Cl prog 136 #[nS (nM ⟨g,0,nN⟩) ks.length c,nI nX i,nI nX (i+1)] w fun e w'=>
   e= nR (nS (nM ⟨g,0,nN⟩) (ks.length-1) c)/\AK w' (nS (nM ⟨g,0,nN⟩) (ks.length-1) c) 9 (Ad (ks.eraseIdx i))/\Chg w w' [g]:=by
 obtain⟨b,j⟩:=Ue (ks.map fun k=>k.data.toList:List (List UInt8));have h:b.length=ks.length:=by rw[j,List.length_map]
 have o:∀(l:List BY),(l.map fun k=>k.data.toList).map encStr=Ad l:=fun l=>by
  unfold Ad;rw[List.map_map];exact List.map_congr_left fun x _=>rfl
 have d:=t;unfold AK at d;rw[show(Ad ks).length=ks.length from Ao ks,<-o ks,<-j]at d;obtain⟨z,y,a,_,C,A,v,B,s⟩:=holds_of_ownsRow d Zh;injection a with a D u
 injection a with a
 injection a with a
 subst a;subst u;have f:=Any.slices_Delete_string cm g 0 c i (i+1) b w s Zj (by unfold maxLen at v;omega) Zj Zj;rw[h]at f;change Cl prog 136 _ _ _ at f;refine f.mono ?_;rintro e w' ⟨rfl,n,rfl⟩;have p:ks.length-(i+1-i)=ks.length-1:=Zj;refine⟨by rw[p], ?_,Jc _ _ _ _ _⟩;have m:=ownsRow_putRow (q:=n) (k:=ks.length-1) (ys:=b.take i++b.drop (i+1)++List.replicate (i+1-i) []) d (by rw[LZ _ _ _ Zj,h]) Zj
 have r:(b.take i++b.drop (i+1)++List.replicate (i+1-i) []).take (ks.length-1)=(ks.eraseIdx i).map fun k=>k.data.toList:=by
  rw[<-h,L0 _ _ _ Zj,j,Oi]
 rw[r,o]at m;unfold AK;rw[Ao,List.length_eraseIdx_of_lt hi];exact m
theorem V7(w:Wl):(zeroValue 66).run prog w= .ok (Zr nN) w:=zeroValue66 w
theorem xk{p:Prop}(h:p:=by rw[List.size_toArray];omega):p:=h
theorem NV(g c i:Nat)(vs:List Vl)(w:Wl)(u:∀v∈vs,∃t x,v= nF t x)(j:AK w (nS (nM ⟨g,0,nN⟩) vs.length c) 66 vs)(hi:i<vs.length):
  Cl prog 137 #[nS (nM ⟨g,0,nN⟩) vs.length c,nI nX i,nI nX (i+1)] w fun e w'=>
   e= nR (nS (nM ⟨g,0,nN⟩) (vs.length-1) c)/\AK w' (nS (nM ⟨g,0,nN⟩) (vs.length-1) c) 66 (vs.eraseIdx i)/\Chg w w' [g]:=by
 obtain⟨b,rfl⟩:=QF u;rw[List.length_map]at j hi|-;have d:=j;unfold AK at d;rw[List.length_map]at d;obtain⟨B,A,a,_,D,p,r,C,m⟩:=holds_of_ownsRow d Zh;injection a with a E o
 injection a with a
 injection a with a
 subst a;subst o;obtain⟨z,s,_,y,_⟩:=info_parts QP;have f:=AnyE.slices_Delete cj Zr (fun x=>by cases x<;>rfl) nN V7 z s y g 0 c i (i+1) b.toArray w m (by simpa using p) (by unfold maxLen at r;omega) Zj xk;rw[List.size_toArray]at f;change Cl prog 137 _ _ _ at f;refine f.mono ?_;rintro e w' ⟨rfl,n,rfl⟩;have l:b.length-(i+1-i)=b.length-1:=Zj;refine⟨by rw[l], ?_,Jc _ _ _ _ _⟩;have h:=ownsRow_putRow (q:=n) (k:=b.length-1) (ys:=b.take i++b.drop (i+1)++List.replicate (i+1-i) nN) d (by rw[LZ _ _ _ Zj]) Zj;rw[L0 _ _ _ hi]at h;unfold AK;rw[<-Oi,List.length_map,List.length_eraseIdx_of_lt hi];simpa using h
end
section
open _root_.Go.Proofs.Tryz
open Go Go.Shelf Go.RowKit Go.Lib Tree Ptr
variable{p:Prop}{w:Wl}
theorem AK.cap63{a:Option Addr}{n c:Nat}{e:Ti}{xs:List Vl}(h:AK w (nS a n c) e xs):c<=9223372036854775807:=by
 rcases h.2 with⟨b,_⟩|⟨i,cap,g,f,_,_,_,d,_⟩
 .injection b with _ _ b;omega
 .injection f with _ _ j;unfold maxLen at d;omega
def E1(w:Wl)(sv:Vl)(T:Ti)(n:Nat)(ys:List Vl)(e:Ending)(w':Wl):Prop:=
 ∃g cap,e= nR (nS (nM ⟨g,0,nN⟩) (n+1) cap)/\AK w' (nS (nM ⟨g,0,nN⟩) (n+1) cap) T ys/\Chg w w' sv.ownBlock.toList/\(sv.ownBlock=nM g\/w.heap.size<=g)
theorem GP:(prog.info? 9).map (fun i=>(i.zero,i.size,i.bytes))=nM (nM Ho,1,16):=Yb
theorem xg(h:p:=by go_ret;exact⟨m,cap,rfl,l.o,j.o,k.o.imp id fun h=>Zj⟩):p:=h
theorem xh(h:p:=by
 rcases b.o.one with⟨h,_⟩|⟨_,_,h,_⟩
 .cases h
 .injection h with h;injection h with h;injection h with F x y;exact⟨x,y⟩):p:=h
theorem xw(h:p:=by
 rcases b.o.one with⟨h,_⟩|⟨_,_,h,_⟩
 .injection h
 .cases h):p:=h
theorem xy(h:p:=by
 rcases b.o.one with⟨_,h⟩|⟨_,_,h,_⟩
 .rw[h];rfl
 .cases h):p:=h
theorem Lr(sv u:Vl)(B:Nat)(cs:List Vl)(w:Wl)(f:AK w sv 9 cs)(s:Ac w B [u] 9)(v:u.oneCell'=true)(J:cs.length<=4294967296):
  Cl prog 132 #[sv,nI nX cs.length,nS (nM ⟨B,0,nN⟩) 1 1] w (E1 w sv 9 cs.length (cs.insertIdx cs.length u)):=by
 obtain⟨a,c,rfl,A⟩:=f.form;have n:=f.capLe;have G:=f.cap63;have p:=s.cell 0;simp only[Qa]at p;have t:cs.insertIdx cs.length u=cs++[u]:=by rw[AQ cs _ (Q8 _)];simp
 rw[t];have b:=hZ f;have q:=hZ p;have E:=hZ n;have H:=n.2;clear f s p t A n;cases a with
 |none=>
  have r:cs.length=0:=by
   exact xy
  have z:c=0:=by
   exact xw
  obtain rfl:cs=[]:=List.eq_nil_of_length_eq_zero r;subst z;clear r;go_enter func132,ntmps132;go_wp2_with(refine AM rfl _ _ _ rfl 9 Ho 16 underlying27 GP rfl (nS nN 0 0) [] ZN b.o B u ZN q.o v Zh Zh ?_;intro m cap D i d e;have l:=hZ i;have j:=hZ d;have k:=hZ e;clear i d e);exact xg
 |some a=>
  obtain⟨g,o,C⟩:=a
  obtain⟨rfl,rfl⟩:o=0/\C=nN:=by
   exact xh
  by_cases I:c=cs.length
  all_goals
   go_enter func132,ntmps132;go_wp2_with(refine AM rfl _ _ _ rfl 9 Ho 16 underlying27 GP rfl (nS (nM ⟨g,0,nN⟩) cs.length c) cs ZN b.o B u ZN q.o v Zj Zj ?_;intro m cap D i d e;have l:=hZ i;have j:=hZ d;have k:=hZ e;clear i d e);exact xg
theorem Jg:(prog.info? 66).map (fun i=>(i.zero,i.size,i.bytes))=nM (nM .nilIface,1,16):=Yb
theorem NA(sv u:Vl)(B:Nat)(cs:List Vl)(w:Wl)(f:AK w sv 66 cs)(s:Ac w B [u] 66)(v:u.oneCell'=true)(J:cs.length<=4294967296):
  Cl prog 133 #[sv,nI nX cs.length,nS (nM ⟨B,0,nN⟩) 1 1] w (E1 w sv 66 cs.length (cs.insertIdx cs.length u)):=by
 obtain⟨a,c,rfl,A⟩:=f.form;have n:=f.capLe;have G:=f.cap63;have p:=s.cell 0;simp only[Qa]at p;have t:cs.insertIdx cs.length u=cs++[u]:=by rw[AQ cs _ (Q8 _)];simp
 rw[t];have b:=hZ f;have q:=hZ p;have E:=hZ n;have H:=n.2;clear f s p t A n;cases a with
 |none=>
  have r:cs.length=0:=by
   exact xy
  have z:c=0:=by
   exact xw
  obtain rfl:cs=[]:=List.eq_nil_of_length_eq_zero r;subst z;clear r;go_enter func133,ntmps133;go_wp2_with(refine AM rfl _ _ _ rfl 66 .nilIface 16 underlying72 Jg rfl (nS nN 0 0) [] ZN b.o B u ZN q.o v Zh Zh ?_;intro m cap D i d e;have l:=hZ i;have j:=hZ d;have k:=hZ e;clear i d e);exact xg
 |some a=>
  obtain⟨g,o,C⟩:=a
  obtain⟨rfl,rfl⟩:o=0/\C=nN:=by
   exact xh
  by_cases I:c=cs.length
  all_goals
   go_enter func133,ntmps133;go_wp2_with(refine AM rfl _ _ _ rfl 66 .nilIface 16 underlying72 Jg rfl (nS (nM ⟨g,0,nN⟩) cs.length c) cs ZN b.o B u ZN q.o v Zj Zj ?_;intro m cap D i d e;have l:=hZ i;have j:=hZ d;have k:=hZ e;clear i d e);exact xg
theorem IE{b:Nat}{cs:List Vl}{T:Ti}(h:Ac w b cs T):w.shape? b=nM (T,cs.length):=by
 unfold Ac at h;unfold World.shape?;rw[h];simp
theorem y7(h:p:=by simp[Act.eval,Act.put]):p:=h
theorem y9(h:p:=by simp only[Nat.min_def,Qj,List.length_nil];split<;>omega):p:=h
theorem xj(h:p:=by rw[n];exact l.kept (Chg.setCells (bs:=[g]) Zh _ _ _ ((Chg.refl w [g]).drew)) (by simpa using F)):p:=h
theorem xm(h:p:=by rw[IntKind.wrap_i64];omega):p:=h
theorem xq(h:p:=by rw[n];exact Chg.setCells Zh _ _ _ (Chg.refl w [g]).drew):p:=h
theorem xE(h:p:=by rw[E];simp only[Nat.min_def];split<;>omega):p:=h
theorem xG(h:p:=by rw[n];exact Ac.setCells _ _ _ _ (o.drew) Zj):p:=h
theorem JL(g c i:Nat)(u:Vl)(B:Nat)(cs:List Vl)(w:Wl)(m:AK w (nS (nM ⟨g,0,nN⟩) cs.length c) 9 cs)(l:Ac w B [u] 9)(F:B≠g)(P:u.oneCell'=true)(J:∀v∈cs,v.oneCell'=true)(hi:i<cs.length)(O:cs.length+1<=c):
  Cl prog 132 #[nS (nM ⟨g,0,nN⟩) cs.length c,nI nX i,nS (nM ⟨B,0,nN⟩) 1 1] w (E1 w (nS (nM ⟨g,0,nN⟩) cs.length c) 9 cs.length (cs.insertIdx i u)):=by
 have S:=m.cap63;obtain⟨k,o,_,k3,k4,Q,R⟩:=m.blk;have G:(prog.info? 9).map (·.size)=nM 1:=Yb
 have N:∀s p,(callFunc 169 #[nS (nM ⟨B,0,nN⟩) 1 1,nS (nM ⟨g,i+1,nN⟩) s p]).run prog w= .ok (.value (.bool false)) w:=fun s p=>by
  rw[run_callFunc_extern func169 Yb Yb Yb (e:=Extern.SlicesOverlaps.overlaps #[27,27] #[4]) Yb,
   Lib.run_overlaps_apart w 27 4 9 underlying27 1 sizeOf9 ⟨B,0,nN⟩ ⟨g,i+1,nN⟩ 1 1 s p F 9 9 1 k.length (IE l) (IE o) Zj (l.frozen 0) (l.frozen 1)]
  rfl
 have E:(cs.drop i).length=cs.length-i:=Qm;have A:∀j v,cs[j]? =nM v->w.cell? ⟨g,j,nN⟩=nM v:=fun j v f=>m.cell rfl j v f
 have D:∀d b t,(Builtin.copy_ #[27,27] d #[nS (nM ⟨g,i+1,nN⟩) (cs.length-i) b,nS (nM ⟨g,i,nN⟩) (cs.length+1-i) t]).run prog w.drew= .ok (goInt (cs.drop i).length) (w.drew.setCells g (i+1) (cs.drop i)):=fun d b t=>
  run_copy_cells w.drew _ _ d 9 g (i+1) (cs.length-i) b ⟨g,i,nN⟩ (cs.length+1-i) t (cs.drop i) underlying27 G xE
   (fun j v a=>by rw[Addr.add_lit];exact A (i+j) v (by rwa[List.getElem?_drop]at a))
   (fun j a=>by rw[show w.drew.cell? ⟨g,i+1+j,nN⟩=w.cell? ⟨g,i+1+j,nN⟩from rfl,o.cell,Q9 Zj];rfl) (fun j a=>o.frozen _) (fun v f=>J v (List.mem_of_mem_drop f))
 obtain⟨h,n⟩:=Ue (w.drew.setCells g (i+1) (cs.drop i));have r:Ac h g (k.take (i+1)++(cs.drop i++k.drop (i+1+(cs.drop i).length))) 9:=xG
 have M:(k.take (i+1)++(cs.drop i++k.drop (i+1+(cs.drop i).length))).length=c:=by simp only[Qk,Ql,Qm];omega
 have y:Ac h B [u] 9:=xj
 have L:∀(W:Wl),(∀x,W.cell? x=h.cell? x)->(∀x,W.frozen? x=h.frozen? x)->∀d b,(Builtin.copy_ #[27,27] d #[nS (nM ⟨g,i,nN⟩) (cs.length+1-i) b,nS (nM ⟨B,0,nN⟩) 1 1]).run prog W= .ok (goInt [u].length) (W.setCells g i [u]):=fun W z K d b=>
  run_copy_cells W _ _ d 9 g i (cs.length+1-i) b ⟨B,0,nN⟩ 1 1 [u] underlying27 G y9
   (fun j v a=>by rw[Addr.add_lit,z,y.cell,Nat.zero_add];exact a)
   (fun j a=>by simp only[Qj,List.length_nil]at a;rw[z,r.cell,Q9 Zj];rfl) (fun j a=>by rw[K];exact r.frozen _) (fun v f=>by simp at f;subst f;exact P)
 have q:=(show AK w.drew _ _ _ from m).shift (v:=u) (Nat.le_of_lt hi) O;rw[<-n]at q D;have I:=hZ q;have C:Chg w (h.setCells g i [u]) [g]:=Chg.setCells Zh _ _ _ xq;have H:=hZ C;have aa:IntKind.i64.wrap ((i:Int)+1)=(i:Int)+1:=xm
 have T:(0:Int)<=(i:Int)+1:=Zj;have Z:((i:Int)+1).toNat=i+1:=Zj;have U:¬(c=i+1):=Zj;have V:(i:Int)<=(cs.length:Int)+1:=Zj;have X:¬(c=i):=Zj;have ab:¬((i:Int)=(cs.length:Int)):=Zj;have Y:i<=cs.length:=Zj;clear r y M q C A E R Q o m l n;go_enter func132,ntmps132;go_wp2_with(simp only[N]);go_region_law(refine step_copy_runI rfl _ _ 27 27 rfl _ _ y7 y7 (D _ _ _) ?_);go_wp2_with(at_builtin;refine wpList_copy_runI _ rfl _ _ 27 27 rfl _ _ rfl rfl (L _ (fun _=>rfl) (fun _=>rfl) _ _) ?_);go_ret;exact⟨g,c,rfl,I.o,H.o,.inl rfl⟩
theorem Lq(g c i:Nat)(u:Vl)(B:Nat)(cs:List Vl)(w:Wl)(m:AK w (nS (nM ⟨g,0,nN⟩) cs.length c) 66 cs)(l:Ac w B [u] 66)(F:B≠g)(P:u.oneCell'=true)(J:∀v∈cs,v.oneCell'=true)(hi:i<cs.length)(O:cs.length+1<=c):
  Cl prog 133 #[nS (nM ⟨g,0,nN⟩) cs.length c,nI nX i,nS (nM ⟨B,0,nN⟩) 1 1] w (E1 w (nS (nM ⟨g,0,nN⟩) cs.length c) 66 cs.length (cs.insertIdx i u)):=by
 have S:=m.cap63;obtain⟨k,o,_,k3,k4,Q,R⟩:=m.blk;have G:(prog.info? 66).map (·.size)=nM 1:=Yb
 have N:∀s p,(callFunc 171 #[nS (nM ⟨B,0,nN⟩) 1 1,nS (nM ⟨g,i+1,nN⟩) s p]).run prog w= .ok (.value (.bool false)) w:=fun s p=>by
  rw[run_callFunc_extern func171 Yb Yb Yb (e:=Extern.SlicesOverlaps.overlaps #[72,72] #[4]) Yb,
   Lib.run_overlaps_apart w 72 4 66 underlying72 1 sizeOf66 ⟨B,0,nN⟩ ⟨g,i+1,nN⟩ 1 1 s p F 66 66 1 k.length (IE l) (IE o) Zj (l.frozen 0) (l.frozen 1)]
  rfl
 have E:(cs.drop i).length=cs.length-i:=Qm;have A:∀j v,cs[j]? =nM v->w.cell? ⟨g,j,nN⟩=nM v:=fun j v f=>m.cell rfl j v f
 have D:∀d b t,(Builtin.copy_ #[72,72] d #[nS (nM ⟨g,i+1,nN⟩) (cs.length-i) b,nS (nM ⟨g,i,nN⟩) (cs.length+1-i) t]).run prog w.drew= .ok (goInt (cs.drop i).length) (w.drew.setCells g (i+1) (cs.drop i)):=fun d b t=>
  run_copy_cells w.drew _ _ d 66 g (i+1) (cs.length-i) b ⟨g,i,nN⟩ (cs.length+1-i) t (cs.drop i) underlying72 G xE
   (fun j v a=>by rw[Addr.add_lit];exact A (i+j) v (by rwa[List.getElem?_drop]at a))
   (fun j a=>by rw[show w.drew.cell? ⟨g,i+1+j,nN⟩=w.cell? ⟨g,i+1+j,nN⟩from rfl,o.cell,Q9 Zj];rfl) (fun j a=>o.frozen _) (fun v f=>J v (List.mem_of_mem_drop f))
 obtain⟨h,n⟩:=Ue (w.drew.setCells g (i+1) (cs.drop i));have r:Ac h g (k.take (i+1)++(cs.drop i++k.drop (i+1+(cs.drop i).length))) 66:=xG
 have M:(k.take (i+1)++(cs.drop i++k.drop (i+1+(cs.drop i).length))).length=c:=by simp only[Qk,Ql,Qm];omega
 have y:Ac h B [u] 66:=xj
 have L:∀(W:Wl),(∀x,W.cell? x=h.cell? x)->(∀x,W.frozen? x=h.frozen? x)->∀d b,(Builtin.copy_ #[72,72] d #[nS (nM ⟨g,i,nN⟩) (cs.length+1-i) b,nS (nM ⟨B,0,nN⟩) 1 1]).run prog W= .ok (goInt [u].length) (W.setCells g i [u]):=fun W z K d b=>
  run_copy_cells W _ _ d 66 g i (cs.length+1-i) b ⟨B,0,nN⟩ 1 1 [u] underlying72 G y9
   (fun j v a=>by rw[Addr.add_lit,z,y.cell,Nat.zero_add];exact a)
   (fun j a=>by simp only[Qj,List.length_nil]at a;rw[z,r.cell,Q9 Zj];rfl) (fun j a=>by rw[K];exact r.frozen _) (fun v f=>by simp at f;subst f;exact P)
 have q:=(show AK w.drew _ _ _ from m).shift (v:=u) (Nat.le_of_lt hi) O;rw[<-n]at q D;have I:=hZ q;have C:Chg w (h.setCells g i [u]) [g]:=Chg.setCells Zh _ _ _ xq;have H:=hZ C;have aa:IntKind.i64.wrap ((i:Int)+1)=(i:Int)+1:=xm
 have T:(0:Int)<=(i:Int)+1:=Zj;have Z:((i:Int)+1).toNat=i+1:=Zj;have U:¬(c=i+1):=Zj;have V:(i:Int)<=(cs.length:Int)+1:=Zj;have X:¬(c=i):=Zj;have ab:¬((i:Int)=(cs.length:Int)):=Zj;have Y:i<=cs.length:=Zj;clear r y M q C A E R Q o m l n;go_enter func133,ntmps133;go_wp2_with(simp only[N]);go_region_law(refine step_copy_runI rfl _ _ 72 72 rfl _ _ y7 y7 (D _ _ _) ?_);go_wp2_with(at_builtin;refine wpList_copy_runI _ rfl _ _ 72 72 rfl _ _ rfl rfl (L _ (fun _=>rfl) (fun _=>rfl) _ _) ?_);go_ret;exact⟨g,c,rfl,I.o,H.o,.inl rfl⟩
theorem G8(z:Vl)(a:z.cells=#[z])(k:Nat):(Builtin.zeroCells z.cells k).toList=List.replicate k z:=by
 rw[a];unfold Builtin.zeroCells;simp[Nat.mod_one,List.map_const']
theorem yZ(h:p:=by
 rw[al]
 exact run_firstCells_some w.drew 1 i ⟨g,0,nN⟩ i c (cs.take i) (by rw[Ql];omega) (fun j v b=>by
  rw[Addr.add_lit,Nat.zero_add];rw[List.getElem?_take]at b;split at b
  .exact C j v b
  .cases b)):p:=h
theorem xH(h:p:=by simp;omega):p:=h
theorem xd(h:p:=by have hc:Chg a (a.setCells w.heap.size i [u]) [w.heap.size]:=Chg.setCells Zh _ _ _ cR;rw[hc.cell (p:=⟨g,j,nN⟩) (World.block_lt_of_cell? a _ (z j v h)) xH];exact z j v h):p:=h
theorem xn(h:p:=by apply Array.toList_inj.1;rw[Array.toList_append,Array.toList_append,G8 _ rfl,G8 _ rfl,F];simp):p:=h
theorem xo(h:p:=by rw[D]at h;rw[show(cs.length:Int)+1-(i:Int)=((cs.length+1-i:Nat):Int)from by omega];exact h):p:=h
theorem xz(h:p:=by go_wp2;go_ret;exact⟨w.heap.size,G,rfl,J.o,I.o.none _,.inr (Q8 _)⟩):p:=h
theorem xA(h:p:=by rw[s];exact(((Chg.refl w []).drew).alloc _).keeps h):p:=h
theorem xB(h:p:=by simp only[Qk,Ql,Qm,Qj,List.length_nil]at S|-;omega):p:=h
theorem xC(h:p:=by simp only[<-drew_setCells];exact PQ (w:=w) (Nat.le_of_lt hi) X ag t):p:=h
theorem xD(h:p:=by rw[F];simp only[Qk,List.length_replicate];omega):p:=h
theorem xF(h:p:=by rw[Q];simp only[Nat.min_def];split<;>omega):p:=h
theorem xI(h:p:=by simp only[Qj,List.length_nil];omega):p:=h
theorem xJ(h:p:=by rw[V,D];exact growslice_fits hr Zj):p:=h
theorem Kl(g c i:Nat)(u:Vl)(B:Nat)(cs:List Vl)(w:Wl)(m:AK w (nS (nM ⟨g,0,nN⟩) cs.length c) 9 cs)(K:Ac w B [u] 9)(hu:u.oneCell'=true)(aa:∀v∈cs,v.oneCell'=true)(hi:i<cs.length)(hr:c<cs.length+1)(hn:cs.length<=4294967296):
  Cl prog 132 #[nS (nM ⟨g,0,nN⟩) cs.length c,nI nX i,nS (nM ⟨B,0,nN⟩) 1 1] w (E1 w (nS (nM ⟨g,0,nN⟩) cs.length c) 9 cs.length (cs.insertIdx i u)):=by
 have am:=m.cap63;have av:=m.capLe.2;have C:∀j v,cs[j]? =nM v->w.cell? ⟨g,j,nN⟩=nM v:=fun j v l=>m.cell rfl j v l;obtain⟨Y,ai,ak,al,V⟩:=info_parts GP;have U:(prog.info? 9).map (·.size)=nM 1:=Yb;have Q:(cs.drop i).length=cs.length-i:=Qm
 have T:(Builtin.firstCells Y.size i (nS (nM ⟨g,0,nN⟩) i c)).run prog w.drew= .ok (cs.take i).toArray w.drew:=by
  exact yZ
 have D:i+(cs.length+1-i)=cs.length+1:=Zj
 have E:∀e,(Builtin.append_ #[27,3] e #[nS (nM ⟨g,0,nN⟩) i c,nI nX ((cs.length:Int)+1-(i:Int))]).run prog w=
   .ok (nS (nM ⟨w.heap.size,0,nN⟩) (cs.length+1) (grownCap w (cs.length+1) c 9)) (w.drew.alloc (nC ((cs.take i).toArray++Builtin.zeroCells (Ho:Vl).cells (cs.length+1-i)++Builtin.zeroCells (Ho:Vl).cells (grownCap w (cs.length+1) c 9-(cs.length+1))) 9)):=fun e=>by
  have h:=Lib.run_append_grow_zeros w 27 3 e 9 Y _ nX nX underlying27 underlying3 ai ak (nM ⟨g,0,nN⟩) i c (cs.take i) T (cs.length+1-i) Zj Zj Zj Zj (by rw[V];omega) xJ;exact xo
 obtain⟨G,q⟩:=Ue (grownCap w (cs.length+1) c 9);have ag:cs.length+1<=G:=by rw[q];exact grownCap_ge w _ _ _
 have t:G<=maxLen:=by rw[q];exact grownCap_le_maxLen w (cs.length+1) c 9 (by unfold maxLen;omega)
 obtain⟨d,F⟩:=Ue (List.replicate (cs.length+1-i) (Ho:Vl)++List.replicate (G-(cs.length+1)) (Ho:Vl):List Vl);have X:d.length+i=G:=xD
 have n:(cs.take i).toArray++Builtin.zeroCells (Ho:Vl).cells (cs.length+1-i)++Builtin.zeroCells (Ho:Vl).cells (G-(cs.length+1))=(cs.take i++d).toArray:=by
  exact xn
 rw[<-q,n]at E;obtain⟨a,s⟩:=Ue (w.drew.alloc (nC (cs.take i++d).toArray 9));have r:Ac a w.heap.size (cs.take i++d) 9:=by rw[s];exact Ac.new w.drew _ _
 have L:Ac a B [u] 9:=by rw[s];exact(K.drew).alloc _
 have S:(cs.take i++d).length=G:=by rw[Qk,Ql];omega
 have z:∀j v,w.cell? ⟨g,j,nN⟩=nM v->a.cell? ⟨g,j,nN⟩=nM v:=fun j v h=>xA
 have O:∀(W:Wl),(∀x,W.cell? x=a.cell? x)->(∀x,W.frozen? x=a.frozen? x)->∀e k,(Builtin.copy_ #[27,27] e #[nS (nM ⟨w.heap.size,i,nN⟩) (cs.length+1-i) k,nS (nM ⟨B,0,nN⟩) 1 1]).run prog W= .ok (goInt [u].length) (W.setCells w.heap.size i [u]):=fun W o A e k=>
  run_copy_cells W _ _ e 9 w.heap.size i (cs.length+1-i) k ⟨B,0,nN⟩ 1 1 [u] underlying27 U y9
   (fun j v b=>by rw[Addr.add_lit,o,L.cell,Nat.zero_add];exact b)
   (fun j b=>by simp only[Qj,List.length_nil]at b;rw[o,r.cell,Q9 Zj];rfl) (fun j b=>by rw[A];exact r.frozen _) (fun v l=>by simp at l;subst l;exact hu)
 have y:Ac (a.setCells w.heap.size i [u]) w.heap.size ((cs.take i++d).take i++([u]++(cs.take i++d).drop (i+[u].length))) 9:=Ac.setCells _ _ _ _ r xI;have aj:((cs.take i++d).take i++([u]++(cs.take i++d).drop (i+[u].length))).length=G:=xB
 have aw:g<w.heap.size:=m.lt rfl
 have M:∀j v,w.cell? ⟨g,j,nN⟩=nM v->(a.setCells w.heap.size i [u]).cell? ⟨g,j,nN⟩=nM v:=fun j v h=>by
  exact xd
 have P:∀(W:Wl),(∀x,W.cell? x=(a.setCells w.heap.size i [u]).cell? x)->(∀x,W.frozen? x=(a.setCells w.heap.size i [u]).frozen? x)->∀e k H,(Builtin.copy_ #[27,27] e #[nS (nM ⟨w.heap.size,i+1,nN⟩) (cs.length-i) k,nS (nM ⟨g,i,nN⟩) (cs.length-i) H]).run prog W= .ok (goInt (cs.drop i).length) (W.setCells w.heap.size (i+1) (cs.drop i)):=fun W o A e k H=>
  run_copy_cells W _ _ e 9 w.heap.size (i+1) (cs.length-i) k ⟨g,i,nN⟩ (cs.length-i) H (cs.drop i) underlying27 U xF
   (fun j v b=>by rw[Addr.add_lit,o];exact M _ v (C (i+j) v (by rwa[List.getElem?_drop]at b)))
   (fun j b=>by rw[o,y.cell,Q9 Zj];rfl) (fun j b=>by rw[A];exact y.frozen _) (fun v l=>aa v (List.mem_of_mem_drop l))
 have R:AK (((w.alloc (nC (cs.take i++d).toArray 9)).drew.setCells w.heap.size i [u]).drew.setCells w.heap.size (i+1) (cs.drop i)) (nS (nM ⟨w.heap.size,0,nN⟩) (cs.length+1) G) 9 (cs.insertIdx i u):=by
  exact xC
 have N:Chg w (((w.alloc (nC (cs.take i++d).toArray 9)).drew.setCells w.heap.size i [u]).drew.setCells w.heap.size (i+1) (cs.drop i)) []:=
  Chg.setCells (fun h=>Zj) _ _ _ (Chg.setCells (fun h=>Zj) _ _ _ (((Chg.refl w []).alloc _).drew)).drew
 have J:=hZ R;have I:=hZ N;have an:G<=9223372036854775807:=by unfold maxLen at t;omega
 have ao:¬(G=i):=Zj;have ap:¬(G=i+1):=Zj;have au:¬(c=i):=Zj;have az:IntKind.i64.wrap ((i:Int)+1)=(i:Int)+1:=xm
 have aq:(0:Int)<=(i:Int)+1:=Zj;have ax:i<=cs.length:=Zj;have ay:((i:Int)+1).toNat=i+1:=Zj;have ar:(i:Int)<=(cs.length:Int):=Zj;have aA:¬((i:Int)=(cs.length:Int)):=Zj;have aB:(c:Int)<(cs.length:Int)+1:=Zj;obtain⟨Z,ah⟩:=Ue (a.setCells w.heap.size i [u]);clear m K C T D n X F r L S z y aj M R N t q Q;subst s;clear ah Z;obtain⟨f,n⟩:=Ue ((cs.take i++d).toArray:Array Vl);rw[<-n]at E O P J I;clear n;have ab:∀x,((w.alloc (nC f 9)).drew).cell? x=(w.drew.alloc (nC f 9)).cell? x:=fun x=>rfl;have ad:∀x,((w.alloc (nC f 9)).drew).frozen? x=(w.drew.alloc (nC f 9)).frozen? x:=fun x=>rfl;have ae:∀x,(((w.alloc (nC f 9)).drew.setCells w.heap.size i [u]).drew).cell? x=((w.drew.alloc (nC f 9)).setCells w.heap.size i [u]).cell? x:=fun x=>rfl;have af:∀x,(((w.alloc (nC f 9)).drew.setCells w.heap.size i [u]).drew).frozen? x=((w.drew.alloc (nC f 9)).setCells w.heap.size i [u]).frozen? x:=fun x=>rfl;go_enter func132,ntmps132
 go_wp2_with(first
  |(at_builtin;refine Lib.wpList_append_run _ rfl _ _ _ _ rfl _ _ rfl rfl _ _ (E _) ?_)
  |(at_builtin;refine wpList_copy_runI _ rfl _ _ 27 27 rfl _ _ rfl rfl (O _ ab ad _ _) ?_))
 go_region_law(refine step_copy_runI rfl _ _ 27 27 rfl (nS (nM ⟨w.heap.size,i+1,nN⟩) (cs.length-i) (G-(i+1))) (nS (nM ⟨g,i,nN⟩) (cs.length-i) (c-i)) y7 y7 (P _ ae af 3 (G-(i+1)) (c-i)) ?_);exact xz
theorem QS(sv u:Vl)(B i:Nat)(cs:List Vl)(w:Wl)(a:AK w sv 9 cs)(b:Ac w B [u] 9)(j:∀g,sv.ownBlock=nM g->B≠g)(d:u.oneCell'=true)(e:∀v∈cs,v.oneCell'=true)(hi:i<=cs.length)(h:cs.length<=4294967296):
  Cl prog 132 #[sv,nI nX i,nS (nM ⟨B,0,nN⟩) 1 1] w (E1 w sv 9 cs.length (cs.insertIdx i u)):=by
 by_cases f:i=cs.length
 .subst f;exact Lr sv u B cs w a b d h
 .rcases a.one with⟨_,rfl⟩|⟨g,c,rfl,_⟩
  .simp at hi f;omega
  .by_cases k:cs.length+1<=c
   .exact JL g c i u B cs w a b (j g rfl) d e Zj k
   .exact Kl g c i u B cs w a b d e Zj Zj h
theorem Ma(g c i:Nat)(u:Vl)(B:Nat)(cs:List Vl)(w:Wl)(m:AK w (nS (nM ⟨g,0,nN⟩) cs.length c) 66 cs)(K:Ac w B [u] 66)(hu:u.oneCell'=true)(aa:∀v∈cs,v.oneCell'=true)(hi:i<cs.length)(hr:c<cs.length+1)(hn:cs.length<=4294967296):
  Cl prog 133 #[nS (nM ⟨g,0,nN⟩) cs.length c,nI nX i,nS (nM ⟨B,0,nN⟩) 1 1] w (E1 w (nS (nM ⟨g,0,nN⟩) cs.length c) 66 cs.length (cs.insertIdx i u)):=by
 have am:=m.cap63;have av:=m.capLe.2;have C:∀j v,cs[j]? =nM v->w.cell? ⟨g,j,nN⟩=nM v:=fun j v l=>m.cell rfl j v l;obtain⟨Y,ai,ak,al,V⟩:=info_parts Jg;have U:(prog.info? 66).map (·.size)=nM 1:=Yb;have Q:(cs.drop i).length=cs.length-i:=Qm
 have T:(Builtin.firstCells Y.size i (nS (nM ⟨g,0,nN⟩) i c)).run prog w.drew= .ok (cs.take i).toArray w.drew:=by
  exact yZ
 have D:i+(cs.length+1-i)=cs.length+1:=Zj
 have E:∀e,(Builtin.append_ #[72,3] e #[nS (nM ⟨g,0,nN⟩) i c,nI nX ((cs.length:Int)+1-(i:Int))]).run prog w=
   .ok (nS (nM ⟨w.heap.size,0,nN⟩) (cs.length+1) (grownCap w (cs.length+1) c 66)) (w.drew.alloc (nC ((cs.take i).toArray++Builtin.zeroCells (.nilIface:Vl).cells (cs.length+1-i)++Builtin.zeroCells (.nilIface:Vl).cells (grownCap w (cs.length+1) c 66-(cs.length+1))) 66)):=fun e=>by
  have h:=Lib.run_append_grow_zeros w 72 3 e 66 Y _ nX nX underlying72 underlying3 ai ak (nM ⟨g,0,nN⟩) i c (cs.take i) T (cs.length+1-i) Zj Zj Zj Zj (by rw[V];omega) xJ;exact xo
 obtain⟨G,q⟩:=Ue (grownCap w (cs.length+1) c 66);have ag:cs.length+1<=G:=by rw[q];exact grownCap_ge w _ _ _
 have t:G<=maxLen:=by rw[q];exact grownCap_le_maxLen w (cs.length+1) c 66 (by unfold maxLen;omega)
 obtain⟨d,F⟩:=Ue (List.replicate (cs.length+1-i) (.nilIface:Vl)++List.replicate (G-(cs.length+1)) (.nilIface:Vl):List Vl);have X:d.length+i=G:=xD
 have n:(cs.take i).toArray++Builtin.zeroCells (.nilIface:Vl).cells (cs.length+1-i)++Builtin.zeroCells (.nilIface:Vl).cells (G-(cs.length+1))=(cs.take i++d).toArray:=by
  exact xn
 rw[<-q,n]at E;obtain⟨a,s⟩:=Ue (w.drew.alloc (nC (cs.take i++d).toArray 66));have r:Ac a w.heap.size (cs.take i++d) 66:=by rw[s];exact Ac.new w.drew _ _
 have L:Ac a B [u] 66:=by rw[s];exact(K.drew).alloc _
 have S:(cs.take i++d).length=G:=by rw[Qk,Ql];omega
 have z:∀j v,w.cell? ⟨g,j,nN⟩=nM v->a.cell? ⟨g,j,nN⟩=nM v:=fun j v h=>xA
 have O:∀(W:Wl),(∀x,W.cell? x=a.cell? x)->(∀x,W.frozen? x=a.frozen? x)->∀e k,(Builtin.copy_ #[72,72] e #[nS (nM ⟨w.heap.size,i,nN⟩) (cs.length+1-i) k,nS (nM ⟨B,0,nN⟩) 1 1]).run prog W= .ok (goInt [u].length) (W.setCells w.heap.size i [u]):=fun W o A e k=>
  run_copy_cells W _ _ e 66 w.heap.size i (cs.length+1-i) k ⟨B,0,nN⟩ 1 1 [u] underlying72 U y9
   (fun j v b=>by rw[Addr.add_lit,o,L.cell,Nat.zero_add];exact b)
   (fun j b=>by simp only[Qj,List.length_nil]at b;rw[o,r.cell,Q9 Zj];rfl) (fun j b=>by rw[A];exact r.frozen _) (fun v l=>by simp at l;subst l;exact hu)
 have y:Ac (a.setCells w.heap.size i [u]) w.heap.size ((cs.take i++d).take i++([u]++(cs.take i++d).drop (i+[u].length))) 66:=Ac.setCells _ _ _ _ r xI;have aj:((cs.take i++d).take i++([u]++(cs.take i++d).drop (i+[u].length))).length=G:=xB
 have aw:g<w.heap.size:=m.lt rfl
 have M:∀j v,w.cell? ⟨g,j,nN⟩=nM v->(a.setCells w.heap.size i [u]).cell? ⟨g,j,nN⟩=nM v:=fun j v h=>by
  exact xd
 have P:∀(W:Wl),(∀x,W.cell? x=(a.setCells w.heap.size i [u]).cell? x)->(∀x,W.frozen? x=(a.setCells w.heap.size i [u]).frozen? x)->∀e k H,(Builtin.copy_ #[72,72] e #[nS (nM ⟨w.heap.size,i+1,nN⟩) (cs.length-i) k,nS (nM ⟨g,i,nN⟩) (cs.length-i) H]).run prog W= .ok (goInt (cs.drop i).length) (W.setCells w.heap.size (i+1) (cs.drop i)):=fun W o A e k H=>
  run_copy_cells W _ _ e 66 w.heap.size (i+1) (cs.length-i) k ⟨g,i,nN⟩ (cs.length-i) H (cs.drop i) underlying72 U xF
   (fun j v b=>by rw[Addr.add_lit,o];exact M _ v (C (i+j) v (by rwa[List.getElem?_drop]at b)))
   (fun j b=>by rw[o,y.cell,Q9 Zj];rfl) (fun j b=>by rw[A];exact y.frozen _) (fun v l=>aa v (List.mem_of_mem_drop l))
 have R:AK (((w.alloc (nC (cs.take i++d).toArray 66)).drew.setCells w.heap.size i [u]).drew.setCells w.heap.size (i+1) (cs.drop i)) (nS (nM ⟨w.heap.size,0,nN⟩) (cs.length+1) G) 66 (cs.insertIdx i u):=by
  exact xC
 have N:Chg w (((w.alloc (nC (cs.take i++d).toArray 66)).drew.setCells w.heap.size i [u]).drew.setCells w.heap.size (i+1) (cs.drop i)) []:=
  Chg.setCells (fun h=>Zj) _ _ _ (Chg.setCells (fun h=>Zj) _ _ _ (((Chg.refl w []).alloc _).drew)).drew
 have J:=hZ R;have I:=hZ N;have an:G<=9223372036854775807:=by unfold maxLen at t;omega
 have ao:¬(G=i):=Zj;have ap:¬(G=i+1):=Zj;have au:¬(c=i):=Zj;have az:IntKind.i64.wrap ((i:Int)+1)=(i:Int)+1:=xm
 have aq:(0:Int)<=(i:Int)+1:=Zj;have ax:i<=cs.length:=Zj;have ay:((i:Int)+1).toNat=i+1:=Zj;have ar:(i:Int)<=(cs.length:Int):=Zj;have aA:¬((i:Int)=(cs.length:Int)):=Zj;have aB:(c:Int)<(cs.length:Int)+1:=Zj;obtain⟨Z,ah⟩:=Ue (a.setCells w.heap.size i [u]);clear m K C T D n X F r L S z y aj M R N t q Q;subst s;clear ah Z;obtain⟨f,n⟩:=Ue ((cs.take i++d).toArray:Array Vl);rw[<-n]at E O P J I;clear n;have ab:∀x,((w.alloc (nC f 66)).drew).cell? x=(w.drew.alloc (nC f 66)).cell? x:=fun x=>rfl;have ad:∀x,((w.alloc (nC f 66)).drew).frozen? x=(w.drew.alloc (nC f 66)).frozen? x:=fun x=>rfl;have ae:∀x,(((w.alloc (nC f 66)).drew.setCells w.heap.size i [u]).drew).cell? x=((w.drew.alloc (nC f 66)).setCells w.heap.size i [u]).cell? x:=fun x=>rfl;have af:∀x,(((w.alloc (nC f 66)).drew.setCells w.heap.size i [u]).drew).frozen? x=((w.drew.alloc (nC f 66)).setCells w.heap.size i [u]).frozen? x:=fun x=>rfl;go_enter func133,ntmps133
 go_wp2_with(first
  |(at_builtin;refine Lib.wpList_append_run _ rfl _ _ _ _ rfl _ _ rfl rfl _ _ (E _) ?_)
  |(at_builtin;refine wpList_copy_runI _ rfl _ _ 72 72 rfl _ _ rfl rfl (O _ ab ad _ _) ?_))
 go_region_law(refine step_copy_runI rfl _ _ 72 72 rfl (nS (nM ⟨w.heap.size,i+1,nN⟩) (cs.length-i) (G-(i+1))) (nS (nM ⟨g,i,nN⟩) (cs.length-i) (c-i)) y7 y7 (P _ ae af 3 (G-(i+1)) (c-i)) ?_);exact xz
theorem N5(sv u:Vl)(B i:Nat)(cs:List Vl)(w:Wl)(a:AK w sv 66 cs)(b:Ac w B [u] 66)(j:∀g,sv.ownBlock=nM g->B≠g)(d:u.oneCell'=true)(e:∀v∈cs,v.oneCell'=true)(hi:i<=cs.length)(h:cs.length<=4294967296):
  Cl prog 133 #[sv,nI nX i,nS (nM ⟨B,0,nN⟩) 1 1] w (E1 w sv 66 cs.length (cs.insertIdx i u)):=by
 by_cases f:i=cs.length
 .subst f;exact NA sv u B cs w a b d h
 .rcases a.one with⟨_,rfl⟩|⟨g,c,rfl,_⟩
  .simp at hi f;omega
  .by_cases k:cs.length+1<=c
   .exact Lq g c i u B cs w a b (j g rfl) d e Zj k
   .exact Ma g c i u B cs w a b d e Zj Zj h
end
section
open _root_.Go.Proofs.Tryz
open Go Go.Shelf Go.RowKit Go.Lib Go.Sort Tree Ptr
variable{g:Nat}{G:Nat->Prop}{w:Wl}
abbrev UF:=Int×BY×BY×Option Addr×Nat×Nat
variable{d:List UF}
def D0:UF->List Vl
 |(k,p,f,a,n,c)=>[nI nX k,nG p,nG f,nS a n c]
theorem Fg(x:UF):(D0 x).length=4:=rfl
theorem Ws:∀x:UF,∀v∈D0 x,v.oneCell'=true:=by
 rintro⟨k,p,f,a,n,c⟩ v b;simp only[D0,Qh,List.not_mem_nil,or_false]at b;rcases b with rfl|rfl|rfl|rfl<;>rfl
theorem QG:∀(d:List UF) (t:Nat),(d.flatMap D0)[t]? =(d[t/4]?).bind fun x=>(D0 x)[t % 4]?
 |[],t=>Zh
 |x::d,t=>by
  rw[List.flatMap_cons];by_cases h:t<4
  .rw[List.getElem?_append_left (by rw[Fg];exact h)];have a:t/4=0:=Zj;have b:t % 4=t:=Zj;rw[a,b];rfl
  .rw[List.getElem?_append_right (by rw[Fg];omega),Fg,QG d];have a:t/4=(t-4)/4+1:=Zj;have b:t % 4=(t-4) % 4:=Zj;rw[a,b];rfl
theorem NY(d:List UF):(d.flatMap D0).length=d.length*4:=by
 induction d with
 |nil=>rfl
 |cons x d a=>rw[List.flatMap_cons,Qk,Fg,a,Qj];omega
theorem NX(d:List UF)(t:Nat)(h:t<d.length*4):(d.flatMap D0)[t]? =nM ((D0 d.toArray[t/4]!)[t % 4]!):=by
 have hi:t/4<d.toArray.size:=xk
 have a:t/4<d.length:=Zj;have b:d.toArray[t/4]! =d[t/4]'a:=by rw[getElem!_pos d.toArray (t/4) hi];rfl
 rw[QG,Q9 a,Option.bind_some,b,List.getElem!_eq_getElem?_getD,Q9 (by rw[Fg];omega)];rfl
theorem SX(h:HoldsK D0 4 w g 0 d.toArray):∀i v,(d.flatMap D0)[i]? =nM v->w.cell? ⟨g,0+i,nN⟩=nM v:=by
 intro i v a;have e:i<d.length*4:=by have:=(Qc.1 a).1;rwa[NY]at this
 rw[NX d i e]at a;have b:=(HoldsK.cell h (i:=i/4) (c:=i % 4) xk (Nat.mod_lt _ ZM)).1;rw[show 0+i/4*4+i % 4=0+i from by omega]at b;rw[b,a]
theorem UZ{b:List Vl}{T:Ti}(c:Ac w g b T)(e:b.take (d.length*4)=d.flatMap D0):HoldsK D0 4 w g 0 d.toArray:=fun j a=>by
 rw[size_flatK,List.size_toArray]at a;refine⟨?_,c.frozen _⟩;rw[get_flatK _ _ _ _ (by rw[List.size_toArray];exact a),c.cell,Nat.zero_add];have:=NX d j a;rw[<-e,List.getElem?_take,Qr a]at this;exact this
theorem Ba.blk{n c sz:Nat}{e:Ti}{xs:List Vl}(h:Ba w (nS (nM ⟨g,0,nN⟩) n c) e sz n xs):∃b:List Vl,Ac w g b e/\n<=c/\b.take (n*sz)=xs:=by
 rcases h.2 with⟨d,_⟩|⟨l,cap,b,a,_,k,f,m,o,i⟩
 .injection d with d;cases d
 .injection a with a p j
  injection a with a
  injection a with a
  subst a;subst j;exact⟨b.toList,by unfold Ac;simpa using k,f,i⟩
theorem YP(d:List UF)(g c:Nat)(w:Wl)(h:Ba w (nS (nM ⟨g,0,nN⟩) d.length c) 44 4 d.length (d.flatMap D0))(C:d.length<=4294967296):
  Cl prog 25 #[nS (nM ⟨g,0,nN⟩) d.length c] w fun e w'=>e= nR (nT #[])/\Ba w' (nS (nM ⟨g,0,nN⟩) d.length c) 44 4 d.length (d.reverse.flatMap D0)/\Chg w w' [g]:=by
 obtain⟨z,s,B,y⟩:=h.blk;have f:=UZ s y;have k:=AnyQ.slices_Reverse bV 4 (fun w=>isAgg44 w) (fun w=>sizeOf44 w) D0 Fg Ws g 0 c d.toArray w f xk;rw[List.size_toArray]at k;refine Calls.mono k ?_;rintro e w' ⟨u,n,rfl⟩;have j:HoldsK D0 4 (putRowK D0 4 (Sort.ahead w n) g 0 d.toArray.reverse) g 0 d.toArray.reverse:=holdsK_putRowK D0 4 _ g 0 d.toArray _ (holdsK_ahead D0 4 w n g 0 _ f) Zh;have l:d.toArray.reverse=d.reverse.toArray:=Zh;rw[l]at j|-;obtain⟨_,o⟩:=h;rcases o with⟨m,_⟩|⟨A,cap,cr,a,_,x,p,q,r,_⟩
 .cases m
 injection a with a _ t
 injection a with a
 injection a with a
 subst a;subst t
 have b:(putRowK D0 4 (Sort.ahead w n) g 0 d.reverse.toArray).heap[g]? =nM (nC (putCells id 0 (flatK D0 4 d.reverse.toArray) cr) 44 (0,0)):=by
  unfold putRowK putRow mapBlock;rw[Array.getElem?_modify,Qr rfl];show Option.map _ w.heap[g]? =_
  rw[x];rfl
 refine⟨u,vS b (by rw[NY,List.length_reverse]) p q (by simpa[putCells]using r) fun i v a=> ?_, ?_⟩
 .have:=SX j i v a;simpa[World.cell?,b]using this
 .exact Jc id w n g _
theorem YO(d:List UF)(sv:Vl)(w:Wl)(h:Ba w sv 44 4 d.length (d.flatMap D0))(j:d.length<=4294967296):
  Cl prog 25 #[sv] w fun e w'=>e= nR (nT #[])/\Ba w' sv 44 4 d.length (d.reverse.flatMap D0)/\Chg w w' sv.ownBlock.toList:=by
 obtain⟨a,c,rfl,f⟩:=h.form;by_cases b:d=[]
 .subst b;refine Calls.mono (AnyQ.slices_Reverse_empty bV a c w) ?_;rintro e w' ⟨i,rfl⟩;exact⟨i,h,Chg.refl _ _⟩
 .obtain⟨g,rfl⟩:=f (List.length_pos_iff.2 b);exact YP d g c w h j
theorem Eh.enc:∀{os:List Bq} {xs:List Vl},Eh w G os xs->∃d:List UF,d.length=os.length/\xs=d.flatMap D0
 |[],_,h=>by unfold Eh at h;subst h;exact⟨[],rfl,rfl⟩
 |o::l,_,⟨sv,ys,r,b,e,i,j,f⟩=>by
  obtain⟨a,c,rfl,_⟩:=e.toC.form;obtain⟨d,g,rfl⟩:=f.enc;exact⟨(o.kind,o.path,o.frm,a,o.steps.length,c)::d,by simp[g],by rw[b];rfl⟩
theorem PU:∀{os:List Bq} {d:List UF},d.length=os.length->Eh w G os (d.flatMap D0)->Eh w G os.reverse (d.reverse.flatMap D0)
 |[],d,a,h=>by have:d=[]:=List.length_eq_zero_iff.1 a;subst this;exact h
 |o::l,[],a,h=>by simp at a
 |o::l,x::d,a,⟨sv,ys,r,b,f,g,i,j⟩=>by
  rw[List.flatMap_cons]at b;obtain⟨c,e⟩:=List.append_inj b (by rw[Fg];rfl);subst e;have k:=PU (os:=l) (d:=d) (by simpa using a) j;rw[List.reverse_cons,List.reverse_cons,List.flatMap_append];refine k.append ?_;exact⟨sv,ys,[],by simp[c],f,g,i,rfl⟩
theorem Fs{P:Program}{H:Array Oper}{rest:List Oper}{o:Oper}{a:Act}{Q:Exit->Act->Wl->Prop}(r:o.guard=nN)(s x:Operand)(t:Ti)(A:o.op= .call {callee:= .builtin .append,args:=#[s,x],argTypes:=#[t,t]})(e:Ti)(z:Vl)(sz f:Nat)(D:0<sz)(E:P.underlying t=nM (.slice e))(v:(P.info? e).map (fun i=>(i.zero,i.size,i.bytes))=nM (nM z,sz,f))(T:z.cells.size=sz)(sv:Vl)(n:Nat)(xs:List Vl)(C:a.eval s=sv)(d:Ba w sv e sz n xs)(m:Nat)(us:List Vl)(J:Vl)(G:a.eval x=J)(p:As w J sz m us)(O:∀u∈us,u.oneCell'=true)(M:(n+m)*f<=140737488355328)(N:n+m<=140737488355328)(h:∀q cap w',Ba w' (nS q (n+m) cap) e sz (n+m) (xs++us)->Chg w w' sv.ownBlock.toList->(∀g,(Vl.slice q (n+m) cap).ownBlock=nM g->sv.ownBlock=nM g\/g=w.heap.size)->
   wpList P H Q rest (a.put o.dst (nS q (n+m) cap)) w'):wpList P H Q (o::rest) a w:=by
 obtain⟨V,I,rfl,Z,S⟩:=p.form;by_cases y:0<m
 .obtain⟨B,U,rfl,K⟩:=p.base y D
  exact Er r s x t A e z sz f D E v T sv n xs C d B U m I us G y S K O M N fun g cap w' j k l=>h _ cap w' j k fun Y c=>by
   simp[Vl.ownBlock]at c;subst c;exact l
 .obtain rfl:m=0:=by omega
  have R:us=[]:=by apply List.length_eq_zero_iff.1;omega
  subst R;obtain⟨i,hi,_⟩:=info_parts v;obtain⟨b,cap,rfl,_⟩:=d.form
  have L:n<=cap:=by
   rcases d.2 with⟨j,k⟩|⟨g,W,X,F,_,_,l,_⟩
   .omega
   .injection F with _ _ F;omega
  refine A1 r s x t A e i E hi b n cap L C V I G ?_;have:=h b cap w (by rw[List.append_nil,Nat.add_zero];exact d) cR (fun g c=> .inl c);exact this
end
section
open _root_.Go.Proofs.Tryz
open Go Go.RowKit Tree
variable{s:Ap}{l:List Tr}{xs:List Vl}{b n:Nat}{F:Nat->Prop}{p:Prop}{T:Ti}{sv:Vl}{w:Wl}
def Zk(w:Wl)(F:Nat->Prop)(a:Vl)(l:List Tr):Prop:=
 ∃xs,Ba w a 29 6 l.length xs/\Aq w F l xs/\(∀b,F b->b<w.heap.size)/\(∀g,a.ownBlock=nM g->¬F g)
def Wf(w:Wl)(e:Ending)(w':Wl):Prop:=(∃(v:Vl) (k:Int),k≠0/\e= nR (nT #[v,nI nX k]))/\Chg w w' []
theorem xK(h:p:=by exact .inl ⟨List.eq_nil_of_length_eq_zero d,a,c,rfl⟩):p:=h
theorem As.rowAt{e:Vl}(h:As w e 1 n xs):Ax w (fun _=>True) e xs:=by
 obtain⟨a,c,rfl,i,d⟩:=h.form;rw[Nat.mul_one]at d;by_cases f:n=0
 .subst f;exact xK
 .obtain⟨b,o,rfl,g⟩:=h.base Zj ZM;exact .inr ⟨b,o,c,by rw[d],trivial,g⟩
structure aI(s:Ap)(ka:Option Addr)(kn kc:Nat)(w0:Wl)(B:Nat)(bF bT bK bD:Bool):Prop where
 cells:∀wx,Chg w0 wx []->Ac wx B [nI nX s.sort,.bool s.flag,nI .u64 s.bits,nG s.text,nI nX s.count,nS ka kn kc] 106
 fin:∀wx,Cl prog 89 #[nI .u64 s.bits] wx fun e w'=>e= nR (.bool bF)/\Chg wx w' []
 text:∀wx,Cl prog 90 #[nG s.text] wx fun e w'=>e= nR (.bool bT)/\wx=w'
 keys:∀wx,Chg w0 wx []->Cl prog 91 #[nS ka kn kc] wx fun e w'=>e= nR (.bool bK)/\Chg wx w' []
 twice:bK=true->∀wx,Chg w0 wx []->Cl prog 92 #[nS ka kn kc] wx fun e w'=>e= nR (.bool bD)/\Chg wx w' []
def AT(F:Nat->Prop)(T:Ti)(b:Nat)(sv:Vl)(l:List Tr)(s:Ap)(w:Wl)(e:Ending)(w':Wl):Prop:=
 if Ds s l=true then Cx F T b sv (NW l s) w e w' else Fc w e w'
theorem AT.yes(h:Ds s l=true):AT F T b sv l s w=Cx F T b sv (NW l s) w:=by
 funext e w';unfold AT;rw[Qr h]
theorem AT.no(h:¬Ds s l=true):AT F T b sv l s w=Fc w:=by
 funext e w';unfold AT;rw[Qs h]
theorem As.rowLt{f:Vl}(h:As w f 1 n xs):Ax w (fun k=>k<w.heap.size) f xs:=by
 obtain⟨a,c,rfl,j,d⟩:=h.form;rw[Nat.mul_one]at d;by_cases g:n=0
 .subst g;exact xK
 .obtain⟨b,o,rfl,e⟩:=h.base Zj ZM;have i:xs[0]? =nM xs[0]:=Q9 Zj;exact .inr ⟨b,o,c,by rw[d],World.block_lt_of_cell? w _ (e 0 _ i),e⟩
theorem cB(i:Bs s.sort s.flag s.bits s.text s.count s.keys.length=true)(f:s.sort≠5)(h:s.sort≠6):
  s.count=0/\s.keys=[]/\Hn s=0/\NW l s=l++[CF s []]/\AF s l=CF s []:=by
 have e:=Gw i;have b:s.count=0:=Decidable.byContradiction fun g=>f (e.2.2.2.2.2.2.1 g);have c:s.keys=[]:=Decidable.byContradiction fun g=>h (e.2.2.2.2.2.2.2 g);have a:Hn s=0:=by unfold Hn;rw[b,c];rfl
 have d:AF s l=CF s []:=by unfold AF;rw[a,Nat.sub_zero,List.drop_length]
 refine⟨b,c,a, ?_,d⟩;unfold NW;rw[a,Nat.sub_zero,List.take_length,d]
def uX(s:Ap)(l:List Tr):Prop:=
 (s.sort=1/\Hid (CF s []= .null/\(Ag (CF s [])).within=true/\Ds s l=true))\/
 (s.sort=2/\Hid (CF s []= .flag s.flag/\(Ag (CF s [])).within=true/\Ds s l=true))\/
 (s.sort=3/\((Hid (decide (9218868437227405312<Fl.A7 s.bits)=true)/\Hid (¬Ds s l=true))\/
  Hid (decide (9218868437227405312<Fl.A7 s.bits)=false)/\((Hid (decide (Fl.A7 s.bits=9218868437227405312)=true)/\Hid (¬Ds s l=true))\/
  Hid (decide (Fl.A7 s.bits=9218868437227405312)=false)/\(((FloatKind.f64.format.order s.bits 0==nM .eq)=true/\Hid (CF s []= .num 0/\(Ag (CF s [])).within=true/\Ds s l=true))\/
  ((FloatKind.f64.format.order s.bits 0==nM .eq)=false/\Hid (CF s []= .num s.bits/\(Ag (CF s [])).within=true/\Ds s l=true))))))\/
 (s.sort=4/\((Hid (Utf.Al s.text=false)/\Hid (¬Ds s l=true))\/Hid (Utf.Al s.text=true)/\((Hid (CF s []= .text s.text/\(Ag (CF s [])).within=false)/\Hid (¬Ds s l=true))\/Hid (CF s []= .text s.text/\(Ag (CF s [])).within=true/\Ds s l=true))))
theorem xp(h:p:=by rw[b];unfold Fl.Fh;simp;omega):p:=h
theorem uY(f:Bs s.sort s.flag s.bits s.text s.count s.keys.length=true)(o:s.sort≠5)(p:s.sort≠6):uX s l:=by
 obtain⟨x,q,t,y,r⟩:=cB (l:=l) f o p;have w:=Gw f;have c:Ds s l=(Kw s&&(Ag (CF s [])).within):=by unfold Ds;rw[r,t];simp
 have u:Kw s=((!decide (s.sort=3)||Fl.Fh s.bits)&&Utf.Al s.text):=by unfold Kw;rw[f,q];simp
 have e:s.sort≠4->Utf.Al s.text=true:=fun g=>by rw[show s.text=Dz from Decidable.byContradiction fun h=>g (w.2.2.2.2.2.1 h)];rfl
 rw[u]at c;have v:s.sort=1\/s.sort=2\/s.sort=3\/s.sort=4:=Zj;rcases v with h|h|h|h
 .have a:CF s []= .null:=by unfold CF;rw[Qr h]
  refine .inl ⟨h,a,by rw[a];rfl,by rw[c,e Zj,a,h];rfl⟩
 .have a:CF s []= .flag s.flag:=by unfold CF;rw[Qs Zj,Qr h]
  refine .inr (.inl ⟨h,a,by rw[a];rfl,by rw[c,e Zj,a,h];rfl⟩)
 .have a:CF s []= .num (Cg s.bits):=by unfold CF;rw[Qs Zj,Qs Zj,Qr h]
  have b:Ds s l=Fl.Fh s.bits:=by rw[c,e Zj,a,h];simp;exact fun _=>rfl
  refine .inr (.inr (.inl ⟨h, ?_⟩));by_cases m:9218868437227405312<Fl.A7 s.bits
  .exact .inl ⟨hZ (by simp[m]),hZ xp⟩
  refine .inr ⟨hZ xH, ?_⟩;by_cases n:Fl.A7 s.bits=9218868437227405312
  .exact .inl ⟨hZ (by simp[n]),hZ xp⟩
  refine .inr ⟨hZ xH, ?_⟩;have i:Ds s l=true:=xp
  rw[show FloatKind.f64.format=Ieee.double from rfl,Fl.Mb];by_cases d:Fl.A7 s.bits=0
  .exact .inl ⟨by simpa using d,by rw[a];unfold Cg;rw[Qr d],by rw[a];rfl,i⟩
  .exact .inr ⟨by simpa using d,by rw[a];unfold Cg;rw[Qs d],by rw[a];rfl,i⟩
 .have a:CF s []= .text s.text:=by unfold CF;rw[Qs Zj,Qs Zj,Qs Zj,Qr h]
  have b:Ds s l=(Utf.Al s.text&&(Ag (CF s [])).within):=by rw[c,h];rfl
  refine .inr (.inr (.inr ⟨h, ?_⟩));cases j:Utf.Al s.text with
  |false=>exact .inl ⟨rfl,hZ (by rw[b,j];simp)⟩
  |true=>
   refine .inr ⟨rfl, ?_⟩;rw[j,Bool.true_and]at b;cases k:(Ag (CF s [])).within with
   |false=>exact .inl ⟨⟨a,rfl⟩,hZ (by rw[b,k];simp)⟩
   |true=>exact .inr ⟨a,rfl,by rw[b,k]⟩
theorem xt(h:p:=by rw[AT.no r.o];exact D2 w N _ _ (w.heap.size+1) rfl rfl ak.o (d.o.trans U) Zj):p:=h
theorem YA(F:Nat->Prop)(T:Ti)(b:Nat)(sv:Vl)(l:List Tr)(vs:List Vl)(s:Ap)(sk:Vl)(w:Wl)(hM:C3 w F T b sv l vs)(hK:As w sk 1 s.keys.length (Ad s.keys))(hb:Di s)(p:EJ l)(hl:l.length<=65536):
  Cl prog 38 #[nP (nM ⟨b,0,nN⟩),DY s.sort s.flag s.bits s.text s.count sk] w (AT F T b sv l s w):=by
 obtain⟨W,X,rfl,bq,bb⟩:=hK.form;have bs:∀(fn:Fn) (first cap:Array Vl) (w:Wl),(Instr.makeFunc fn first cap).run prog w= .ok (.func fn first cap) w:=fun _ _ _ _=>rfl;have bp:=GW;have f:=hZ hM;have aD:=hZ p;have HK:=hZ hK.rowLt;have O:=hZ hb;obtain⟨M,ay⟩:=Ue s.keys.length;rw[<-ay];have ao:=hZ ay;have br:=f.o.blk.lt;have aH:=hZ ((Ac.new w [nI nX s.sort,.bool s.flag,nI .u64 s.bits,nG s.text,nI nX s.count,nS W M X] 55).alloc (nC #[.nilIface] 35));have aA:=hZ (CH w (nC ([nI nX s.sort,.bool s.flag,nI .u64 s.bits,nG s.text,nI nX s.count,nS W M X]).toArray 55) [.nilIface] 35);obtain⟨bU,hU⟩:=Ue (Bs s.sort s.flag s.bits s.text s.count M);have HU:=hZ hU.symm;clear hM p hK hb ay hU bb;go_enter_defers func38,ntmps38
 unfold DY;cases bU
 .rw[AT.no (fun h=>by
   unfold Ds Kw at h;rw[<-ao.o,HU.o]at h
   simp at h)]
  go_wp2_with(first
   |(go_at_call 64;refine(Ck s.sort s.flag s.bits s.text s.count W M X _).mono ?_;rintro e B ⟨rfl,u⟩;rw[HU.o];have ad:=hZ (aH.o.kept u);have c:=hZ (aA.o.kept u);obtain⟨bk,bl,aj,bg,bh,bi,a0,bj⟩:=Ac.cells6 ad.o;obtain⟨aq,a9,a8⟩:=Ac.cells1 c.o)
   |(go_at_call 63;refine(CD _ _).mono ?_;rintro e Y ⟨rfl,rfl⟩))
  exact D2 w B _ _ (w.heap.size+1) rfl rfl c.o ((((Chg.refl w []).alloc _).alloc _).trans u) Zj
 go_upto_region 3 with(first
  |(go_at_call 64;refine(Ck s.sort s.flag s.bits s.text s.count W M X _).mono ?_;rintro e B ⟨rfl,u⟩;rw[HU.o];have ad:=hZ (aH.o.kept u);have c:=hZ (aA.o.kept u);obtain⟨bk,bl,aj,bg,bh,bi,a0,bj⟩:=Ac.cells6 ad.o;obtain⟨aq,a9,a8⟩:=Ac.cells1 c.o)
  |(go_at_call 63;refine(Au _ _).mono ?_;rintro e Y ⟨rfl,rfl⟩))
 have d:=UD (Chg w B []) ((((Chg.refl w []).alloc _).alloc _).trans u);have bt:w.heap.size+2<=B.heap.size:=by have:=u.size;simp at this;omega
 have q:Bs s.sort s.flag s.bits s.text s.count s.keys.length=true:=by rw[<-ao.o];exact HU.o
 have x:=Gw q;by_cases m:s.sort=5
 .have ae:s.keys=[]:=Decidable.byContradiction fun g=>by have:=x.2.2.2.2.2.2.2 g;omega
  have K:s.text=Dz:=Decidable.byContradiction fun h=>by have:=x.2.2.2.2.2.1 h;omega
  obtain⟨n,J⟩:=Ue s.count.toNat;have aO:s.count=(n:Int):=Zj;have j:Hn s=n:=by unfold Hn;rw[ae,J];rfl
  have aU:Kw s=true:=CU.2 ⟨q,fun g=>Zj,by rw[K];rfl,by rw[ae];rfl,by rw[ae];exact List.nodup_nil⟩;have v:AF s l= .list (l.drop (l.length-n)):=by unfold AF CF;rw[j,Qs Zj,Qs Zj,Qs Zj,Qs Zj,Qr m]
  have an:=UD (Ds s l=(decide (n<=l.length)&&(Ag (.list (l.drop (l.length-n)))).within)) (by unfold Ds;rw[aU,v,j];rfl);have D:=UD (NW l s=l.take (l.length-n)++[.list (l.drop (l.length-n))]) (by unfold NW;rw[v,j]);rw[m]at aj;rw[aO]at a0;clear m ae K J aO j aU v q x;by_cases aP:¬n<=l.length
  .have r:=UD (¬Ds s l=true) (by rw[an.o];simp[aP]);go_wp2_with(go_at_call 70;go_loud(refine(JS F T b sv l vs _ (f.o.kept d.o) n Zj).mono ?_;rintro e N ⟨rfl,U⟩;have ak:=hZ (c.o.kept U)));exact xt
  have J:n<=l.length:=Zj;have aY:=f.o.items.length;have a1:Hid ((vs.drop (vs.length-n)).length=n):=by unfold Hid;rw[Qm];omega
  obtain⟨S,hS⟩:∃S,(Bk (l.drop (vs.length-n))).over 0=S:=⟨_,rfl⟩;have aI:=hZ hS;have a6:=hZ aY;have HN:=hZ J;obtain⟨s1,s2,s3⟩:=S;clear aY hS aP
  go_wp2_with(first
   |(go_at_call 70;go_loud(have E:=hZ (f.o.kept d.o);refine(GS F T b sv l vs _ E.o n J Zj).mono ?_;rintro e N ⟨v5,rfl,af,az,aW⟩;obtain⟨Q,c5,rfl,_⟩:=af.form;rw[a1.o]at af az|-;have ap:=hZ af;have a5:=hZ az;have aa:=hZ aW;clear af az aW))
   |(go_at_call 72;go_loud(
     refine(Ie (fun k=>F k\/(Vl.slice Q n c5).ownBlock=nM k) (nS Q n c5) (l.drop (vs.length-n)) (vs.drop (vs.length-n)) 0 N (ap.o.rowAt fun g hg=> .inr hg)
      ((E.o.items.kept (aa.o.keepsF E.o.lt) (fun _ h=> .inl h)).drop _) (by
       rintro k (a|a)
       .exact Q6 (E.o.lt k a) aa.o.size
       .exact ap.o.lt a) (aD.o.drop _) xH Zj).mono ?_
     rintro e C ⟨rfl,aR⟩;rw[aI.o];unfold SC;have aE:=hZ aR;clear aR)))
  obtain⟨y,ag⟩:=Ue (C.alloc (nC #[nI nX s1,nI nX s2,nI nX s3,nS Q n c5] 173));rw[<-ag];have G:Ac y C.heap.size [nI nX s1,nI nX s2,nI nX s3,nS Q n c5] 173:=by rw[ag];exact Ac.new C _ _
  have aw:Chg N y []:=by rw[ag];exact aE.o.alloc _
  have I:Chg B y []:=aa.o.trans aw;have aS:Chg w y []:=d.o.trans I;have be:B.heap.size<=C.heap.size:=(aa.o.trans aE.o).size;have bf:C.heap.size<y.heap.size:=G.lt;obtain⟨z,R⟩:∃z:Nat->Prop,z=fun k=>F k\/(B.heap.size<=k/\k<y.heap.size):=⟨_,rfl⟩
  have ar:C3 y z T b sv l vs:=by
   subst R;refine E.o.grown I (fun k a=> .inl a) (fun k a=>a.imp_right And.left) (fun k a=> ?_);rcases a with a|a
   .have:=E.o.lt k a;have:=I.size;omega
   .exact a.2
  have aZ:l.drop (l.length-n)=l.drop (vs.length-n):=by rw[a6.o]
  have aV:Ag (.list (l.drop (vs.length-n)))=⟨s1,s2,s3⟩:=by
   show(Bk (l.drop (vs.length-n))).over 0=_
   exact aI.o
  have aT:Af y z (.list (l.drop (l.length-n))) (nF 141 (nP (nM ⟨C.heap.size,0,nN⟩))):=by
   rw[aZ];simp only[Af];rw[aV];have aX:=ap.o.kept aw;refine⟨C.heap.size,nS Q n c5,vs.drop (vs.length-n),rfl,by rw[R];exact .inr ⟨be,bf⟩,G.cell 0,G.cell 1,G.cell 2,G.cell 3,aX.rowAt fun g hg=> ?_,ar.items.drop _⟩;rw[R];exact .inr ⟨a5.o g hg,aX.lt hg⟩
  have al:=c.o.kept I;have aB:=hZ al;have a4:=hZ ar;have aG:=hZ aT;have aF:=hZ aS;have bm:=hZ I;have am:=hZ R;obtain⟨ba,bo,bn⟩:=Ac.cells1 al;clear ag G aw I aS ar aZ aV aT al R;by_cases ah:(Ag (.list (l.drop (l.length-n)))).within=true
  .refine(I0 z T _ _ b sv l vs n _ a4.o aG.o ah J Zj).mono ?_;rintro e w9 ⟨rfl,o⟩;have A:=hZ o
   have ab:=hZ (aB.o.kept o.chg (fun V=>by
    simp only[Qh,Option.mem_toList]at V;rcases V with V|V
    .omega
    .have:=f.o.lst.lt V;omega))
   obtain⟨aK,aL,aJ⟩:=Ac.cells1 ab.o;clear o;go_wp2_with fail;rw[AT.yes (by rw[an.o,ah];simp[HN.o]),D.o];refine uV f.o rfl rfl ab.o aF.o A.o (fun k a=>by rw[am.o];exact .inl a) (fun k a bc=> ?_) Zj ba (fun p=> ?_)
   .rw[am.o]at a;rcases a with a|a
    .exact a
    .omega
   .rw[am.o]at p;rcases p with a|a
    .have:=f.o.lt _ a;omega
    .omega
  .have bd:(Ag (.list (l.drop (l.length-n)))).within=false:=by simpa using ah
   refine(IZ z _ _ b n _ aG.o bd).mono ?_;rintro e w9 ⟨rfl,ax⟩;have ab:=hZ (aB.o.kept ax);have a3:=hZ ax;clear ax;go_wp2_with fail;rw[AT.no (by rw[an.o];simp[ah])];exact D2 w w9 _ _ (w.heap.size+1) rfl rfl ab.o (aF.o.trans a3.o) Zj
 by_cases H:s.sort=6
 .have au:s.count=0:=Decidable.byContradiction fun g=>m (x.2.2.2.2.2.2.1 g);have K:s.text=Dz:=Decidable.byContradiction fun h=>by have:=x.2.2.2.2.2.1 h;omega
  have j:Hn s=s.keys.length:=by unfold Hn;rw[au];simp
  have v:AF s l=D1 s.keys (l.drop (l.length-s.keys.length)):=by unfold AF CF;rw[j,Qs Zj,Qs Zj,Qs Zj,Qs Zj,Qs Zj]
  have ai:Ds s l=true↔ux l s.keys:=by
   unfold Ds ux;rw[v,j];simp only[Bool.and_eq_true,decide_eq_true_eq,CU];exact⟨fun h=>⟨List.all_eq_true.1 h.1.1.2.2.2.1,h.1.1.2.2.2.2,h.1.2,h.2⟩,fun h=>⟨⟨⟨q,fun g=>Zj,by rw[K];rfl,List.all_eq_true.2 h.1,h.2.1⟩,h.2.2.1⟩,h.2.2.2⟩⟩
  have HO:=UD (∀Z,Chg w Z []->Cl prog 73 #[nP (nM ⟨b,0,nN⟩),nS W M X] Z (uA F T b sv l s.keys Z)) fun Z h=>by
   rw[ao.o];exact uw F T b sv l vs Z (f.o.kept h) _ _ s.keys (HK.o.kept (h.keepsF (fun _ h=>h)) (fun _ h=>h)) (fun k a=>Q6 a h.size) O.o.size O.o.keys (fun _=>Zj) (Q7 (show(s.keys.map ByteArray.size).sum<=4294967296 from O.o.sum) Zj) aD.o Zj
  have D:=UD (NW l s=l.take (l.length-s.keys.length)++[D1 s.keys (l.drop (l.length-s.keys.length))]) (by unfold NW;rw[v,j]);rw[H]at aj;by_cases L:ux l s.keys
  .have i:=hZ L;have a7:=hZ (ai.2 L);clear m H au K j v ai q x L;go_wp2_with(go_at_call 73;go_loud(refine(HO.o _ d.o).mono ?_;rintro e w4 hX;obtain⟨rfl,z,aM,aN,o⟩:=hX.1 i.o;clear hX;have a2:=hZ aM;have aC:=hZ aN;have A:=hZ o;clear aM aN o;have P:=hZ (c.o.kept A.o.chg (f.o.newNotIn (w.heap.size+1) Zj));obtain⟨aK,aL,aJ⟩:=Ac.cells1 P.o));rw[AT.yes a7.o,D.o];refine uV f.o rfl rfl P.o d.o A.o a2.o (fun k a bc=>aC.o k a Zj) Zj aq (fun p=> ?_);have:=f.o.lt _ (aC.o _ p aq);omega
  .have i:=hZ L;have r:=UD (¬Ds s l=true) fun h=>L (ai.1 h);clear m H au K j v ai q x L;go_wp2_with(go_at_call 73;go_loud(refine(HO.o _ d.o).mono ?_;rintro e N hX;obtain⟨⟨n5,rfl⟩,U⟩:=hX.2 i.o;have ak:=hZ (c.o.kept U)));exact xt
 have D:=UD (NW l s=l++[CF s []]) (cB (l:=l) q m H).2.2.2.1;have hw:=uY (l:=l) q m H;obtain⟨t,ht⟩:=Ue (CF s []);unfold uX at hw;rw[<-ht]at hw D;clear q x m H ht;rcases hw with⟨a,i⟩|⟨a,i⟩|⟨a,⟨H1,r⟩|⟨H1,⟨H2,r⟩|⟨H2,⟨hz,i⟩|⟨hz,i⟩⟩⟩⟩|⟨a,⟨H3,r⟩|⟨H3,⟨i,r⟩|i⟩⟩
 all_goals
  rw[a]at aj;clear a
  go_wp2_with(first
   |(go_at_call_of 63 (Vl.bool true);refine(Au _ _).mono ?_;rintro e Y ⟨rfl,rfl⟩)
   |(go_at_call 63;refine(CD _ _).mono ?_;rintro e Y ⟨rfl,rfl⟩)
   |(go_at_call 67;refine(FO s.bits _).mono ?_;rintro e Y ⟨rfl,rfl⟩;rw[H1.o])
   |(go_at_call 68;refine(bJ s.bits O.o.bits _).mono ?_;rintro e Y ⟨rfl,rfl⟩;rw[H2.o])
   |(go_at_call 69;refine(Dq s.text _ O.o.text).mono ?_;rintro e w2 ⟨rfl,av⟩;rw[H3.o];replace d:=hZ (d.o.trans av);replace c:=hZ (c.o.kept av);obtain⟨bB,bC,bu,bv,bw,bx,bz,bA⟩:=Ac.cells6 (ad.o.kept av);obtain⟨bE,bF,bD⟩:=Ac.cells1 c.o)
   |(go_at_call 65;first
    |(refine(EO F T t _ b sv l vs _ (f.o.kept d.o) (by rw[i.o.1];simp only[Af]) i.o.2.1 Zj).mono ?_;rintro e w4 ⟨rfl,o⟩;have A:=hZ o;clear o;have P:=hZ (c.o.kept A.o.chg (f.o.newNotIn (w.heap.size+1) Zj));obtain⟨aK,aL,aJ⟩:=Ac.cells1 P.o)
    |(refine(Rm (fun _=>False) t _ b _ (by rw[i.o.1];simp only[Af]) i.o.2).mono ?_;rintro e w4 ⟨rfl,aQ⟩;replace d:=hZ (d.o.trans aQ);replace c:=hZ (c.o.kept aQ))))
  first
   |(rw[AT.no r.o];exact D2 w _ _ _ (w.heap.size+1) rfl rfl c.o d.o Zj)
   |rw[AT.yes i.o.2.2,D.o]
    exact uV f.o rfl rfl P.o d.o A.o (fun _ h=>h) (fun _ h _=>h) Zj c.o.lt (fun p=>by have:=f.o.lt _ p;omega)
def BO(l:List Ap)(w:Wl)(e:Ending)(w':Wl):Prop:=
 (match(if l.length<=65536 then CA l else nN)with
  |some t=>∃(F:Nat->Prop) (a:Nat),e= nR (nT #[nP (nM ⟨a,0,nN⟩),.nilIface])/\CG w' F a t/\(∀b,F b->b<w'.heap.size)/\(Ag t).within=true/\(∀b,F b->w.heap.size<=b)/\w.heap.size<=a
  |none=>∃(c:Ti) (x:Vl),e= nR (nT #[nP nN,nF c x]))/\Chg w w' []
theorem Az.item{l:List Ap}{o c:Nat}(h:As w (nS (nM ⟨b,o,nN⟩) n c) 6 l.length xs)(p:0<l.length)(k:Az w l xs){i:Nat}(q:l[i]? =nM s):
  ∃sk,As w sk 1 s.keys.length (Ad s.keys)/\∀j v,(AI s sk)[j]? =nM v->w.cell? ⟨b,o+i*6+j,nN⟩=nM v:=by
 obtain⟨sk,f,g⟩:=k.get i s q;obtain⟨t,u,e,m⟩:=h.base p ZM;injection e with e
 injection e with a d
 subst a;subst d;exact⟨sk,f,fun j v r=>by rw[Nat.add_assoc];exact m _ v (g j v r)⟩
theorem AT.after{d w':Wl}{e:Ending}(a:Chg w d [])(h:AT F T b sv l s d e w'):AT F T b sv l s w e w':=by
 unfold AT at h|-;by_cases c:Ds s l=true
 .rw[Qr c]at h|-;exact Cx.after a h
 .rw[Qs c]at h|-;exact⟨h.1,a.trans h.2⟩
theorem Ni(h:Ds s l=true):AT F T b sv l s=Cx F T b sv (NW l s):=by
 funext w;exact AT.yes h
theorem OR(h:Ds s l=false):AT F T b sv l s=Fc:=by
 funext w;exact AT.no (by rw[h];decide)
theorem Fk(l:List Ap)(sl:Vl)(xs:List Vl)(w:Wl)(P:As w sl 6 l.length xs)(hS:Az w l xs)(I:∀s∈l,Di s)(hl:l.length<=4294967296):
  Cl prog 16 #[sl] w (BO l w):=by
 obtain⟨a,c,rfl,aB,_⟩:=P.form;have aD:∀(k:Int) (w:Wl),(Instr.typeAssert (nF 70 (nI nX k)) 35 70 false).run prog w= .ok (nI nX k) w:=fun _ _=>Yb;have HR:=hZ P;have HS:=hZ hS;have HB:=hZ I;clear P hS I;by_cases D:l.length<=65536
 .obtain⟨w0,E⟩:=Ue (w.alloc (nC #[nS nN 0 0] 111));have HG:Hid (Chg w w0 []):=by rw[E];exact hZ ((Chg.refl w []).alloc _)
  have aq:Hid (C3 w0 (fun _=>False) 111 w.heap.size (nS nN 0 0) [] []):=by
   rw[E];exact hZ ⟨Ac.new w _ _,AK.nil _ _,by simp[Ak],Zh,(fun g m=>by cases m),(fun k f=>f.elim)⟩
  have ak:w0.heap.size=w.heap.size+1:=by rw[E];simp
  have HZ:=hZ ak;have HW:=hZ E;clear E ak;go_enter func16,ntmps16;go_wp2_with fail;rw[<-HW.o];go_loopw [14] (fun X wr=>∃(i:Nat) (row:List Tr) (F:Nat->Prop) (sv:Vl) (vs:List Vl),i<=l.length/\X= nI nX i/\DS [] (l.take i)=nM row/\C3 wr F 111 w.heap.size sv row vs/\(∀k,F k->w.heap.size<=k)/\(∀g,sv.ownBlock=nM g->w.heap.size<=g)/\Chg w wr []) (fun X _=>l.length-(intOf X).toNat)
  case atStart=>exact⟨0,[],_,_,[],Zj,rfl,by simp[DS],aq.o,fun k f=>f.elim,fun g m=>(by cases m),HG.o⟩
  case round=>
   obtain⟨q,rfl⟩:=Ue wr;obtain⟨i,row,F,sv,vs,hi,rfl,n,O,ah,ai,m⟩:=hrel;have R:=Jq (row:=[]) (fun _ h=>by cases h) n;have aj:row.length<=65536:=by have:=R.2;rw[Ql]at this;simp at this;omega
   have z:=hZ m;have N:=hZ n;have y:=hZ O;have Z:=hZ ah;have aa:=hZ ai;have Y:=hZ R.1;obtain⟨x1,x2,az⟩:=Ac.cells1 O.blk;have av:w.heap.size<=q.heap.size:=m.size;clear n O ah ai m R;by_cases J:i<l.length
   .obtain⟨s,A⟩:∃s,l[i]? =nM s:=⟨_,Q9 J⟩;have W:s∈l:=Qi A;obtain⟨b,o,rfl,_⟩:=HR.o.base Zj ZM;obtain⟨sk,K,V⟩:=Az.item HR.o Zj HS.o A;obtain⟨ka,kc,rfl,_⟩:=K.form;have p:∀j v,(AI s (nS ka s.keys.length kc))[j]? =nM v->q.cell? ⟨b,o+i*6+j,nN⟩=nM v:=fun j v hv=>z.o.keeps (V j v hv);have c0:=p 0 _ rfl;have c1:=p 1 _ rfl;have c2:=p 2 _ rfl;have c3:=p 3 _ rfl;have c4:=p 4 _ rfl;have c5:=p 5 _ rfl;rw[Nat.add_zero]at c0
    have G:=UD (∀L,Chg q L []->Cl prog 38 #[nP (nM ⟨w.heap.size,0,nN⟩),nA #[nI nX s.sort,.bool s.flag,nI .u64 s.bits,nG s.text,nI nX s.count,nS ka s.keys.length kc]] L (AT F 111 w.heap.size sv row s q)) fun L h=>
     (YA F _ _ sv row vs s _ L (y.o.kept h) (K.kept (z.o.trans h)) (HB.o s W) Y.o aj).mono fun e w' hp=>AT.after h hp
    by_cases C:Ds s row=true
    .have T:=KE N.o A;rw[Qr C]at T;have ar:=hZ T;rw[Ni C]at G;clear T C A W K V p;go_wp2_with(first|(go_at_call 38;refine(G.o _ (by exact cg cR)).mono ?_;rintro e w3 ⟨rfl,F3,ax,ay,au,ab,ad,B,ae⟩;have al:=hZ ab;have am:=hZ ad;have M:=hZ B;have an:=hZ ae;clear au ab ad B ae));go_roundw
     case rel=>
      refine⟨i+1,_,F3,ax,ay,Zj,by go_num,ar.o,am.o,fun k f=> ?_,fun g m=> ?_, ?_⟩
      .by_cases J:k<q.heap.size
       .exact Z.o k (al.o k f J)
       .omega
      .rcases an.o g m with h|h
       .exact aa.o g h
       .omega
      refine Chg.step (cs:=w.heap.size::sv.ownBlock.toList) (b:=_) ?_ M.o fun k f J=> ?_
      .exact cg z.o
      .exfalso
       simp only[Qh,Option.mem_toList]at f;rcases f with rfl|f
       .omega
       .have:=aa.o k f;omega
     case measure=>simp[intOf];omega
    .have Q:Ds s row=false:=by simpa using C
     have ag:=Oz N.o A Q;have d:(if l.length<=65536 then CA l else nN)=nN:=by rw[Qr D];unfold CA;rw[ag]
     have u:=hZ d;rw[OR Q]at G;clear ag d C Q A W K V p;go_wp2_with(first|(go_at_call 38;refine(G.o _ (by exact cg cR)).mono ?_;rintro e w3 ⟨⟨n3,rfl⟩,B⟩;have M:=hZ B;clear B));go_quiet(fail);go_wp2_with fail;go_ret2;unfold BO;rw[u.o];exact⟨⟨_,_,rfl⟩,Chg.drewN (ct z.o M.o) _⟩
   .obtain rfl:i=l.length:=by omega
    have n:=N.o;rw[Qn (Q8 _)]at n;have aw:=y.o.items.length;obtain⟨sa,sc,rfl,U⟩:=y.o.lst.form;by_cases H:row.length=1
    .obtain⟨t,rfl⟩:∃t,row=[t]:=by
      match row,H with
      |[t],_=>exact⟨t,rfl⟩
     have d:(if l.length<=65536 then CA l else nN)=nM t:=by rw[Qr D];unfold CA;rw[n]
     have u:=hZ d;have af:=y.o.items;simp only[Ak]at af;obtain⟨v,r,rfl,S,rfl⟩:=af;obtain⟨g,rfl⟩:=U Zh;obtain⟨ti,x,rfl⟩:=S.iface;have y1:q.cell? ⟨g,0,nN⟩=nM (nF ti x):=y.o.lst.cell rfl 0 _ rfl;have ap:=hZ S;have ao:Hid ((Ag t).within=true):=Y.o t Zh;simp only[Qj,List.length_nil]at aw aj az|-;clear S U H n d;go_wp2_with fail;go_ret2;unfold BO;rw[u.o];exact⟨⟨F,q.heap.size,by first|rfl|simp,⟨nF ti x,Bx rfl _ _,Af.kept (((Chg.refl q []).alloc _).keepsF y.o.lt) (fun _ h=>h) _ _ ap.o,Zh⟩,fun b I=>by have:=y.o.lt b I;simp;omega,ao.o,Z.o,av⟩,z.o.alloc _⟩
    .have d:(if l.length<=65536 then CA l else nN)=nN:=by
      rw[Qr D];unfold CA;rw[n];match row,H with
      |[],_=>rfl
      |[t],h=>exact absurd rfl h
      |_::_::_,_=>rfl
     have u:=hZ d;have aA:((vs.length:Int)==1)=false:=by rw[Qq];omega
     clear d n H U;go_wp2_with fail;go_ret2;unfold BO;rw[u.o];exact⟨⟨_,_,rfl⟩,z.o⟩
 .have d:(if l.length<=65536 then CA l else nN)=nN:=Qs D;have u:=hZ d;have aC:(65536:Int)<(l.length:Int):=Zj;clear d D;go_enter func16,ntmps16;go_wp2_with fail;go_ret2;unfold BO;rw[u.o];exact⟨⟨_,_,rfl⟩,Chg.refl _ _⟩
end
end Go.Proofs.YtamgbmcchhmojaaGreatDoor

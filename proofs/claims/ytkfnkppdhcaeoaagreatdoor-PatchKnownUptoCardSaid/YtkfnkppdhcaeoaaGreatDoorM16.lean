/- Part 16 of the proof of coreBase. -/
import Derived.Test.YtkfnkppdhcaeoaaGreatDoorM07
import Derived.Test.YtkfnkppdhcaeoaaGreatDoorM15
set_option maxRecDepth 100000
set_option maxHeartbeats 32000000
set_option linter.all false
namespace Go.Proofs.YtkfnkppdhcaeoaaGreatDoor
open Go renaming Calls->Cl,TypeId->Ti,Value->Vl,World->Wl
open Go.Value renaming iface->nF,int->nI,slice->nS
open Go.IntKind renaming i64->nX
open Go.Ending renaming returned->nR
open Go.Obj renaming cells->nC
open Option renaming none->nN,some->nM
section
open _root_.Go.Proofs.Tryz
open Go Go.Shelf Go.RowKit Go.Lib Go.Sort Tree Ptr
theorem QP:(prog.info? 95).map (fun i=>(i.zero,i.size,i.bytes))=nM (nM .nilIface,1,16):=Yb
def Zr:Option (Ti×Vl)->Vl
 |none=> .nilIface
 |some (t,x)=> nF t x
theorem QF:∀{vs:List Vl},(∀v∈vs,∃t x,v= nF t x)->∃l:List (Option (Ti×Vl)),l.map Zr=vs
 |[],_=>⟨[],rfl⟩
 |v::vs,h=>by
  obtain⟨l,a⟩:=QF (vs:=vs) fun u b=>h u (by simp[b])
  obtain⟨t,x,rfl⟩:=h v Zh;exact⟨nM (t,x)::l,by rw[List.map_cons,a];rfl⟩
theorem L0{a:Type}(l:List a)(i:Nat)(z:a)(hi:i<l.length):(l.take i++l.drop (i+1)++List.replicate (i+1-i) z).take (l.length-1)=l.eraseIdx i:=by
 rw[List.eraseIdx_eq_take_drop_succ];have b:(l.take i++l.drop (i+1)).length=l.length-1:=by rw[Qk,Ql,Qm];omega
 rw[List.take_append_of_le_length Zj,Qn Zj]
theorem LZ{a:Type}(l:List a)(i:Nat)(z:a)(hi:i<l.length):(l.take i++l.drop (i+1)++List.replicate (i+1-i) z).length=l.length:=by
 simp only[Qk,Ql,Qm,List.length_replicate];omega
theorem Oi{a b:Type}(f:a->b)(l:List a)(i:Nat):(l.eraseIdx i).map f=(l.map f).eraseIdx i:=by
 rw[List.eraseIdx_eq_take_drop_succ,List.eraseIdx_eq_take_drop_succ,List.map_append,List.map_take,List.map_drop]
theorem Jc{a:Type}[Inhabited a](enc:a->Vl)(w:Wl)(n g:Nat)(d:Array a):Chg w (putRow enc (Sort.ahead w n) g 0 d) [g]:=by
 refine⟨rfl,rfl,rfl,by simp[putRow,mapBlock,Sort.ahead],fun k c b=> ?_⟩;have:g≠k:=fun e=>b (by simp[e])
 simp[putRow,mapBlock,Sort.ahead,Array.getElem?_modify,this]
theorem QD(g c i:Nat)(ks:List BY)(w:Wl)(t:AK w (nS (nM ⟨g,0,nN⟩) ks.length c) 9 (Ad ks))(hi:i<ks.length):
  Cl prog 202 #[nS (nM ⟨g,0,nN⟩) ks.length c,nI nX i,nI nX (i+1)] w fun e w'=>
   e= nR (nS (nM ⟨g,0,nN⟩) (ks.length-1) c)/\AK w' (nS (nM ⟨g,0,nN⟩) (ks.length-1) c) 9 (Ad (ks.eraseIdx i))/\Chg w w' [g]:=by
 obtain⟨b,j⟩:=Ue (ks.map fun k=>k.data.toList:List (List UInt8))
 have h:b.length=ks.length:=by rw[j,List.length_map]
 have o:∀(l:List BY),(l.map fun k=>k.data.toList).map encStr=Ad l:=fun l=>by
  unfold Ad;rw[List.map_map];exact List.map_congr_left fun x _=>rfl
 have d:=t;unfold AK at d;rw[show(Ad ks).length=ks.length from Ao ks,<-o ks,<-j]at d;obtain⟨z,y,a,_,C,A,v,B,s⟩:=holds_of_ownsRow d Zh
 injection a with a D u
 injection a with a
 injection a with a
 subst a;subst u;have f:=Any.slices_Delete_string cm g 0 c i (i+1) b w s Zj (by unfold maxLen at v;omega) Zj Zj;rw[h]at f;change Cl prog 202 _ _ _ at f;refine f.mono ?_;rintro e w' ⟨rfl,n,rfl⟩;have p:ks.length-(i+1-i)=ks.length-1:=Zj
 refine⟨by rw[p], ?_,Jc _ _ _ _ _⟩;have m:=ownsRow_putRow (q:=n) (k:=ks.length-1) (ys:=b.take i++b.drop (i+1)++List.replicate (i+1-i) []) d (by rw[LZ _ _ _ Zj,h]) Zj
 have r:(b.take i++b.drop (i+1)++List.replicate (i+1-i) []).take (ks.length-1)=(ks.eraseIdx i).map fun k=>k.data.toList:=by
  rw[<-h,L0 _ _ _ Zj,j,Oi]
 rw[r,o]at m;unfold AK;rw[Ao,List.length_eraseIdx_of_lt hi];exact m
theorem V7(w:Wl):(zeroValue 95).run prog w= .ok (Zr nN) w:=zeroValue95 w
theorem NV(g c i:Nat)(vs:List Vl)(w:Wl)(u:∀v∈vs,∃t x,v= nF t x)(j:AK w (nS (nM ⟨g,0,nN⟩) vs.length c) 95 vs)(hi:i<vs.length):
  Cl prog 203 #[nS (nM ⟨g,0,nN⟩) vs.length c,nI nX i,nI nX (i+1)] w fun e w'=>
   e= nR (nS (nM ⟨g,0,nN⟩) (vs.length-1) c)/\AK w' (nS (nM ⟨g,0,nN⟩) (vs.length-1) c) 95 (vs.eraseIdx i)/\Chg w w' [g]:=by
 obtain⟨b,rfl⟩:=QF u;rw[List.length_map]at j hi|-;have d:=j;unfold AK at d;rw[List.length_map]at d;obtain⟨B,A,a,_,D,p,r,C,m⟩:=holds_of_ownsRow d Zh
 injection a with a E o
 injection a with a
 injection a with a
 subst a;subst o;obtain⟨z,s,_,y,_⟩:=info_parts QP;have f:=AnyE.slices_Delete cj Zr (fun x=>by cases x<;>rfl) nN V7 z s y g 0 c i (i+1) b.toArray w m (by simpa using p) (by unfold maxLen at r;omega) Zj (by rw[List.size_toArray];omega);rw[List.size_toArray]at f;change Cl prog 203 _ _ _ at f;refine f.mono ?_;rintro e w' ⟨rfl,n,rfl⟩;have l:b.length-(i+1-i)=b.length-1:=Zj
 refine⟨by rw[l], ?_,Jc _ _ _ _ _⟩;have h:=ownsRow_putRow (q:=n) (k:=b.length-1) (ys:=b.take i++b.drop (i+1)++List.replicate (i+1-i) nN) d (by rw[LZ _ _ _ Zj]) Zj;rw[L0 _ _ _ hi]at h;unfold AK;rw[<-Oi,List.length_map,List.length_eraseIdx_of_lt hi];simpa using h
end
section
open _root_.Go.Proofs.Tryz
open Go Go.Shelf Go.RowKit Go.Lib Tree Ptr
theorem AK.cap63{w:Wl}{a:Option Addr}{n c:Nat}{e:Ti}{xs:List Vl}(h:AK w (nS a n c) e xs):c<=9223372036854775807:=by
 rcases h.2 with⟨b,_⟩|⟨j,g,i,f,_,_,_,d,_⟩
 .injection b with _ _ b;omega
 .injection f with _ _ k;unfold maxLen at d;omega
def E1(w:Wl)(sv:Vl)(T:Ti)(n:Nat)(ys:List Vl)(e:Ending)(w':Wl):Prop:=
 ∃g a,e= nR (nS (nM ⟨g,0,nN⟩) (n+1) a)/\AK w' (nS (nM ⟨g,0,nN⟩) (n+1) a) T ys/\Chg w w' sv.ownBlock.toList/\(sv.ownBlock=nM g\/w.heap.size<=g)
theorem GP:(prog.info? 9).map (fun i=>(i.zero,i.size,i.bytes))=nM (nM Ho,1,16):=Yb
theorem Lr(sv u:Vl)(B:Nat)(cs:List Vl)(w:Wl)(f:AK w sv 9 cs)(t:Ac w B [u] 9)(x:u.oneCell'=true)(K:cs.length<=4294967296):
  Cl prog 198 #[sv,nI nX cs.length,nS (nM ⟨B,0,nN⟩) 1 1] w (E1 w sv 9 cs.length (cs.insertIdx cs.length u)):=by
 obtain⟨a,c,rfl,C⟩:=f.form;have p:=f.capLe;have H:=f.cap63;have q:=t.cell 0;simp only[Qa]at q;have v:cs.insertIdx cs.length u=cs++[u]:=by rw[AQ cs _ (Q8 _)];simp
 rw[v];have b:=hZ f;have r:=hZ q;have F:=hZ p;have I:=p.2;clear f t q v C p
 cases a with
 |none=>
  have s:cs.length=0:=by
   rcases b.o.one with⟨_,h⟩|⟨_,_,h,_⟩
   .rw[h];rfl
   .cases h
  have A:c=0:=by
   rcases b.o.one with⟨h,_⟩|⟨_,_,h,_⟩
   .injection h
   .cases h
  obtain rfl:cs=[]:=List.eq_nil_of_length_eq_zero s;subst A;clear s;go_enter func198,ntmps198
  go_wp2_with(refine AM rfl _ _ _ rfl 9 Ho 16 underlying27 GP rfl (nS nN 0 0) [] ZN b.o B u ZN r.o x Zh Zh ?_;intro n m E i d e;have l:=hZ i;have j:=hZ d;have k:=hZ e;clear i d e)
  go_ret
  exact⟨n,m,rfl,l.o,j.o,k.o.imp id fun h=>Zj⟩
 |some a=>
  obtain⟨g,o,D⟩:=a
  obtain⟨rfl,rfl⟩:o=0/\D=nN:=by
   rcases b.o.one with⟨h,_⟩|⟨_,_,h,_⟩
   .cases h
   .injection h with h;injection h with h;injection h with G y z;exact⟨y,z⟩
  by_cases J:c=cs.length
  all_goals
   go_enter func198,ntmps198
   go_wp2_with(refine AM rfl _ _ _ rfl 9 Ho 16 underlying27 GP rfl (nS (nM ⟨g,0,nN⟩) cs.length c) cs ZN b.o B u ZN r.o x Zj Zj ?_;intro n m E i d e;have l:=hZ i;have j:=hZ d;have k:=hZ e;clear i d e)
   go_ret
   exact⟨n,m,rfl,l.o,j.o,k.o.imp id fun h=>Zj⟩
theorem Jg:(prog.info? 95).map (fun i=>(i.zero,i.size,i.bytes))=nM (nM .nilIface,1,16):=Yb
theorem NA(sv u:Vl)(B:Nat)(cs:List Vl)(w:Wl)(f:AK w sv 95 cs)(t:Ac w B [u] 95)(x:u.oneCell'=true)(K:cs.length<=4294967296):
  Cl prog 199 #[sv,nI nX cs.length,nS (nM ⟨B,0,nN⟩) 1 1] w (E1 w sv 95 cs.length (cs.insertIdx cs.length u)):=by
 obtain⟨a,c,rfl,C⟩:=f.form;have p:=f.capLe;have H:=f.cap63;have q:=t.cell 0;simp only[Qa]at q;have v:cs.insertIdx cs.length u=cs++[u]:=by rw[AQ cs _ (Q8 _)];simp
 rw[v];have b:=hZ f;have r:=hZ q;have F:=hZ p;have I:=p.2;clear f t q v C p
 cases a with
 |none=>
  have s:cs.length=0:=by
   rcases b.o.one with⟨_,h⟩|⟨_,_,h,_⟩
   .rw[h];rfl
   .cases h
  have A:c=0:=by
   rcases b.o.one with⟨h,_⟩|⟨_,_,h,_⟩
   .injection h
   .cases h
  obtain rfl:cs=[]:=List.eq_nil_of_length_eq_zero s;subst A;clear s;go_enter func199,ntmps199
  go_wp2_with(refine AM rfl _ _ _ rfl 95 .nilIface 16 underlying105 Jg rfl (nS nN 0 0) [] ZN b.o B u ZN r.o x Zh Zh ?_;intro n m E i d e;have l:=hZ i;have j:=hZ d;have k:=hZ e;clear i d e)
  go_ret
  exact⟨n,m,rfl,l.o,j.o,k.o.imp id fun h=>Zj⟩
 |some a=>
  obtain⟨g,o,D⟩:=a
  obtain⟨rfl,rfl⟩:o=0/\D=nN:=by
   rcases b.o.one with⟨h,_⟩|⟨_,_,h,_⟩
   .cases h
   .injection h with h;injection h with h;injection h with G y z;exact⟨y,z⟩
  by_cases J:c=cs.length
  all_goals
   go_enter func199,ntmps199
   go_wp2_with(refine AM rfl _ _ _ rfl 95 .nilIface 16 underlying105 Jg rfl (nS (nM ⟨g,0,nN⟩) cs.length c) cs ZN b.o B u ZN r.o x Zj Zj ?_;intro n m E i d e;have l:=hZ i;have j:=hZ d;have k:=hZ e;clear i d e)
   go_ret
   exact⟨n,m,rfl,l.o,j.o,k.o.imp id fun h=>Zj⟩
theorem IE{w:Wl}{b:Nat}{cs:List Vl}{T:Ti}(h:Ac w b cs T):w.shape? b=nM (T,cs.length):=by
 unfold Ac at h;unfold World.shape?;rw[h];simp
theorem JL(g c i:Nat)(u:Vl)(B:Nat)(cs:List Vl)(w:Wl)(m:AK w (nS (nM ⟨g,0,nN⟩) cs.length c) 9 cs)(l:Ac w B [u] 9)(F:B≠g)(P:u.oneCell'=true)(J:∀v∈cs,v.oneCell'=true)(hi:i<cs.length)(O:cs.length+1<=c):
  Cl prog 198 #[nS (nM ⟨g,0,nN⟩) cs.length c,nI nX i,nS (nM ⟨B,0,nN⟩) 1 1] w (E1 w (nS (nM ⟨g,0,nN⟩) cs.length c) 9 cs.length (cs.insertIdx i u)):=by
 have S:=m.cap63;obtain⟨k,o,_,k3,k4,Q,R⟩:=m.blk;have G:(prog.info? 9).map (·.size)=nM 1:=Yb
 have N:∀s p,(callFunc 236 #[nS (nM ⟨B,0,nN⟩) 1 1,nS (nM ⟨g,i+1,nN⟩) s p]).run prog w= .ok (.value (.bool false)) w:=fun s p=>by
  rw[run_callFunc_extern func236 Yb Yb Yb (e:=Extern.SlicesOverlaps.overlaps #[27,27] #[4]) Yb,
   Lib.run_overlaps_apart w 27 4 9 underlying27 1 sizeOf9 ⟨B,0,nN⟩ ⟨g,i+1,nN⟩ 1 1 s p F 9 9 1 k.length (IE l) (IE o) Zj (l.frozen 0) (l.frozen 1)]
  rfl
 have E:(cs.drop i).length=cs.length-i:=Qm;have A:∀j v,cs[j]? =nM v->w.cell? ⟨g,j,nN⟩=nM v:=fun j v f=>m.cell rfl j v f
 have D:∀d b t,(Builtin.copy_ #[27,27] d #[nS (nM ⟨g,i+1,nN⟩) (cs.length-i) b,nS (nM ⟨g,i,nN⟩) (cs.length+1-i) t]).run prog w.drew= .ok (goInt (cs.drop i).length) (w.drew.setCells g (i+1) (cs.drop i)):=fun d b t=>
  run_copy_cells w.drew _ _ d 9 g (i+1) (cs.length-i) b ⟨g,i,nN⟩ (cs.length+1-i) t (cs.drop i) underlying27 G (by rw[E];simp only[Nat.min_def];split<;>omega)
   (fun j v a=>by rw[Addr.add_lit];exact A (i+j) v (by rwa[List.getElem?_drop]at a))
   (fun j a=>by rw[show w.drew.cell? ⟨g,i+1+j,nN⟩=w.cell? ⟨g,i+1+j,nN⟩from rfl,o.cell,Q9 Zj];rfl) (fun j a=>o.frozen _) (fun v f=>J v (List.mem_of_mem_drop f))
 obtain⟨h,n⟩:=Ue (w.drew.setCells g (i+1) (cs.drop i))
 have r:Ac h g (k.take (i+1)++(cs.drop i++k.drop (i+1+(cs.drop i).length))) 9:=by rw[n];exact Ac.setCells _ _ _ _ (o.drew) Zj
 have M:(k.take (i+1)++(cs.drop i++k.drop (i+1+(cs.drop i).length))).length=c:=by simp only[Qk,Ql,Qm];omega
 have y:Ac h B [u] 9:=by rw[n];exact l.kept (Chg.setCells (bs:=[g]) Zh _ _ _ ((Chg.refl w [g]).drew)) (by simpa using F)
 have L:∀(W:Wl),(∀x,W.cell? x=h.cell? x)->(∀x,W.frozen? x=h.frozen? x)->∀d b,(Builtin.copy_ #[27,27] d #[nS (nM ⟨g,i,nN⟩) (cs.length+1-i) b,nS (nM ⟨B,0,nN⟩) 1 1]).run prog W= .ok (goInt [u].length) (W.setCells g i [u]):=fun W z K d b=>
  run_copy_cells W _ _ d 9 g i (cs.length+1-i) b ⟨B,0,nN⟩ 1 1 [u] underlying27 G (by simp only[Nat.min_def,Qj,List.length_nil];split<;>omega)
   (fun j v a=>by rw[Addr.add_lit,z,y.cell,Nat.zero_add];exact a)
   (fun j a=>by simp only[Qj,List.length_nil]at a;rw[z,r.cell,Q9 Zj];rfl) (fun j a=>by rw[K];exact r.frozen _) (fun v f=>by simp at f;subst f;exact P)
 have q:=(show AK w.drew _ _ _ from m).shift (v:=u) (Nat.le_of_lt hi) O;rw[<-n]at q D;have I:=hZ q;have C:Chg w (h.setCells g i [u]) [g]:=Chg.setCells Zh _ _ _ (by rw[n];exact Chg.setCells Zh _ _ _ (Chg.refl w [g]).drew);have H:=hZ C;have aa:IntKind.i64.wrap ((i:Int)+1)=(i:Int)+1:=by rw[IntKind.wrap_i64];omega
 have T:(0:Int)<=(i:Int)+1:=Zj
 have Z:((i:Int)+1).toNat=i+1:=Zj
 have U:¬(c=i+1):=Zj
 have V:(i:Int)<=(cs.length:Int)+1:=Zj
 have X:¬(c=i):=Zj
 have ab:¬((i:Int)=(cs.length:Int)):=Zj
 have Y:i<=cs.length:=Zj
 clear r y M q C A E R Q o m l n;go_enter func198,ntmps198
 go_wp2_with(simp only[N])
 go_region_law(refine step_copy_runI rfl _ _ 27 27 rfl _ _ (by simp[Act.eval,Act.put]) (by simp[Act.eval,Act.put]) (D _ _ _) ?_)
 go_wp2_with(at_builtin;refine wpList_copy_runI _ rfl _ _ 27 27 rfl _ _ rfl rfl (L _ (fun _=>rfl) (fun _=>rfl) _ _) ?_)
 go_ret
 exact⟨g,c,rfl,I.o,H.o,.inl rfl⟩
theorem Lq(g c i:Nat)(u:Vl)(B:Nat)(cs:List Vl)(w:Wl)(m:AK w (nS (nM ⟨g,0,nN⟩) cs.length c) 95 cs)(l:Ac w B [u] 95)(F:B≠g)(P:u.oneCell'=true)(J:∀v∈cs,v.oneCell'=true)(hi:i<cs.length)(O:cs.length+1<=c):
  Cl prog 199 #[nS (nM ⟨g,0,nN⟩) cs.length c,nI nX i,nS (nM ⟨B,0,nN⟩) 1 1] w (E1 w (nS (nM ⟨g,0,nN⟩) cs.length c) 95 cs.length (cs.insertIdx i u)):=by
 have S:=m.cap63;obtain⟨k,o,_,k3,k4,Q,R⟩:=m.blk;have G:(prog.info? 95).map (·.size)=nM 1:=Yb
 have N:∀s p,(callFunc 238 #[nS (nM ⟨B,0,nN⟩) 1 1,nS (nM ⟨g,i+1,nN⟩) s p]).run prog w= .ok (.value (.bool false)) w:=fun s p=>by
  rw[run_callFunc_extern func238 Yb Yb Yb (e:=Extern.SlicesOverlaps.overlaps #[105,105] #[4]) Yb,
   Lib.run_overlaps_apart w 105 4 95 underlying105 1 sizeOf95 ⟨B,0,nN⟩ ⟨g,i+1,nN⟩ 1 1 s p F 95 95 1 k.length (IE l) (IE o) Zj (l.frozen 0) (l.frozen 1)]
  rfl
 have E:(cs.drop i).length=cs.length-i:=Qm;have A:∀j v,cs[j]? =nM v->w.cell? ⟨g,j,nN⟩=nM v:=fun j v f=>m.cell rfl j v f
 have D:∀d b t,(Builtin.copy_ #[105,105] d #[nS (nM ⟨g,i+1,nN⟩) (cs.length-i) b,nS (nM ⟨g,i,nN⟩) (cs.length+1-i) t]).run prog w.drew= .ok (goInt (cs.drop i).length) (w.drew.setCells g (i+1) (cs.drop i)):=fun d b t=>
  run_copy_cells w.drew _ _ d 95 g (i+1) (cs.length-i) b ⟨g,i,nN⟩ (cs.length+1-i) t (cs.drop i) underlying105 G (by rw[E];simp only[Nat.min_def];split<;>omega)
   (fun j v a=>by rw[Addr.add_lit];exact A (i+j) v (by rwa[List.getElem?_drop]at a))
   (fun j a=>by rw[show w.drew.cell? ⟨g,i+1+j,nN⟩=w.cell? ⟨g,i+1+j,nN⟩from rfl,o.cell,Q9 Zj];rfl) (fun j a=>o.frozen _) (fun v f=>J v (List.mem_of_mem_drop f))
 obtain⟨h,n⟩:=Ue (w.drew.setCells g (i+1) (cs.drop i))
 have r:Ac h g (k.take (i+1)++(cs.drop i++k.drop (i+1+(cs.drop i).length))) 95:=by rw[n];exact Ac.setCells _ _ _ _ (o.drew) Zj
 have M:(k.take (i+1)++(cs.drop i++k.drop (i+1+(cs.drop i).length))).length=c:=by simp only[Qk,Ql,Qm];omega
 have y:Ac h B [u] 95:=by rw[n];exact l.kept (Chg.setCells (bs:=[g]) Zh _ _ _ ((Chg.refl w [g]).drew)) (by simpa using F)
 have L:∀(W:Wl),(∀x,W.cell? x=h.cell? x)->(∀x,W.frozen? x=h.frozen? x)->∀d b,(Builtin.copy_ #[105,105] d #[nS (nM ⟨g,i,nN⟩) (cs.length+1-i) b,nS (nM ⟨B,0,nN⟩) 1 1]).run prog W= .ok (goInt [u].length) (W.setCells g i [u]):=fun W z K d b=>
  run_copy_cells W _ _ d 95 g i (cs.length+1-i) b ⟨B,0,nN⟩ 1 1 [u] underlying105 G (by simp only[Nat.min_def,Qj,List.length_nil];split<;>omega)
   (fun j v a=>by rw[Addr.add_lit,z,y.cell,Nat.zero_add];exact a)
   (fun j a=>by simp only[Qj,List.length_nil]at a;rw[z,r.cell,Q9 Zj];rfl) (fun j a=>by rw[K];exact r.frozen _) (fun v f=>by simp at f;subst f;exact P)
 have q:=(show AK w.drew _ _ _ from m).shift (v:=u) (Nat.le_of_lt hi) O;rw[<-n]at q D;have I:=hZ q;have C:Chg w (h.setCells g i [u]) [g]:=Chg.setCells Zh _ _ _ (by rw[n];exact Chg.setCells Zh _ _ _ (Chg.refl w [g]).drew);have H:=hZ C;have aa:IntKind.i64.wrap ((i:Int)+1)=(i:Int)+1:=by rw[IntKind.wrap_i64];omega
 have T:(0:Int)<=(i:Int)+1:=Zj
 have Z:((i:Int)+1).toNat=i+1:=Zj
 have U:¬(c=i+1):=Zj
 have V:(i:Int)<=(cs.length:Int)+1:=Zj
 have X:¬(c=i):=Zj
 have ab:¬((i:Int)=(cs.length:Int)):=Zj
 have Y:i<=cs.length:=Zj
 clear r y M q C A E R Q o m l n;go_enter func199,ntmps199
 go_wp2_with(simp only[N])
 go_region_law(refine step_copy_runI rfl _ _ 105 105 rfl _ _ (by simp[Act.eval,Act.put]) (by simp[Act.eval,Act.put]) (D _ _ _) ?_)
 go_wp2_with(at_builtin;refine wpList_copy_runI _ rfl _ _ 105 105 rfl _ _ rfl rfl (L _ (fun _=>rfl) (fun _=>rfl) _ _) ?_)
 go_ret
 exact⟨g,c,rfl,I.o,H.o,.inl rfl⟩
theorem G8(z:Vl)(a:z.cells=#[z])(k:Nat):(Builtin.zeroCells z.cells k).toList=List.replicate k z:=by
 rw[a];unfold Builtin.zeroCells;simp[Nat.mod_one,List.map_const']
theorem Kl(g c i:Nat)(u:Vl)(B:Nat)(cs:List Vl)(w:Wl)(m:AK w (nS (nM ⟨g,0,nN⟩) cs.length c) 9 cs)(K:Ac w B [u] 9)(hu:u.oneCell'=true)(aa:∀v∈cs,v.oneCell'=true)(hi:i<cs.length)(hr:c<cs.length+1)(hn:cs.length<=4294967296):
  Cl prog 198 #[nS (nM ⟨g,0,nN⟩) cs.length c,nI nX i,nS (nM ⟨B,0,nN⟩) 1 1] w (E1 w (nS (nM ⟨g,0,nN⟩) cs.length c) 9 cs.length (cs.insertIdx i u)):=by
 have am:=m.cap63;have av:=m.capLe.2;have C:∀j v,cs[j]? =nM v->w.cell? ⟨g,j,nN⟩=nM v:=fun j v l=>m.cell rfl j v l
 obtain⟨Y,ai,ak,al,V⟩:=info_parts GP;have U:(prog.info? 9).map (·.size)=nM 1:=Yb
 have Q:(cs.drop i).length=cs.length-i:=Qm
 have T:(Builtin.firstCells Y.size i (nS (nM ⟨g,0,nN⟩) i c)).run prog w.drew= .ok (cs.take i).toArray w.drew:=by
  rw[al]
  exact run_firstCells_some w.drew 1 i ⟨g,0,nN⟩ i c (cs.take i) (by rw[Ql];omega) (fun j v b=>by
   rw[Addr.add_lit,Nat.zero_add];rw[List.getElem?_take]at b;split at b
   .exact C j v b
   .cases b)
 have D:i+(cs.length+1-i)=cs.length+1:=Zj
 have E:∀e,(Builtin.append_ #[27,3] e #[nS (nM ⟨g,0,nN⟩) i c,nI nX ((cs.length:Int)+1-(i:Int))]).run prog w=
   .ok (nS (nM ⟨w.heap.size,0,nN⟩) (cs.length+1) (grownCap w (cs.length+1) c 9)) (w.drew.alloc (nC ((cs.take i).toArray++Builtin.zeroCells (Ho:Vl).cells (cs.length+1-i)++Builtin.zeroCells (Ho:Vl).cells (grownCap w (cs.length+1) c 9-(cs.length+1))) 9)):=fun e=>by
  have h:=Lib.run_append_grow_zeros w 27 3 e 9 Y _ nX nX underlying27 underlying3 ai ak (nM ⟨g,0,nN⟩) i c (cs.take i) T (cs.length+1-i) Zj Zj Zj Zj (by rw[V];omega) (by rw[V,D];exact growslice_fits hr Zj);rw[D]at h;rw[show(cs.length:Int)+1-(i:Int)=((cs.length+1-i:Nat):Int)from by omega];exact h
 obtain⟨G,q⟩:=Ue (grownCap w (cs.length+1) c 9)
 have ag:cs.length+1<=G:=by rw[q];exact grownCap_ge w _ _ _
 have t:G<=maxLen:=by rw[q];exact grownCap_le_maxLen w (cs.length+1) c 9 (by unfold maxLen;omega)
 obtain⟨d,F⟩:=Ue (List.replicate (cs.length+1-i) (Ho:Vl)++List.replicate (G-(cs.length+1)) (Ho:Vl):List Vl)
 have X:d.length+i=G:=by rw[F];simp only[Qk,List.length_replicate];omega
 have n:(cs.take i).toArray++Builtin.zeroCells (Ho:Vl).cells (cs.length+1-i)++Builtin.zeroCells (Ho:Vl).cells (G-(cs.length+1))=(cs.take i++d).toArray:=by
  apply Array.toList_inj.1;rw[Array.toList_append,Array.toList_append,G8 _ rfl,G8 _ rfl,F];simp
 rw[<-q,n]at E;obtain⟨a,s⟩:=Ue (w.drew.alloc (nC (cs.take i++d).toArray 9))
 have r:Ac a w.heap.size (cs.take i++d) 9:=by rw[s];exact Ac.new w.drew _ _
 have L:Ac a B [u] 9:=by rw[s];exact(K.drew).alloc _
 have S:(cs.take i++d).length=G:=by rw[Qk,Ql];omega
 have z:∀j v,w.cell? ⟨g,j,nN⟩=nM v->a.cell? ⟨g,j,nN⟩=nM v:=fun j v h=>by rw[s];exact(((Chg.refl w []).drew).alloc _).keeps h
 have O:∀(W:Wl),(∀x,W.cell? x=a.cell? x)->(∀x,W.frozen? x=a.frozen? x)->∀e k,(Builtin.copy_ #[27,27] e #[nS (nM ⟨w.heap.size,i,nN⟩) (cs.length+1-i) k,nS (nM ⟨B,0,nN⟩) 1 1]).run prog W= .ok (goInt [u].length) (W.setCells w.heap.size i [u]):=fun W o A e k=>
  run_copy_cells W _ _ e 9 w.heap.size i (cs.length+1-i) k ⟨B,0,nN⟩ 1 1 [u] underlying27 U (by simp only[Nat.min_def,Qj,List.length_nil];split<;>omega)
   (fun j v b=>by rw[Addr.add_lit,o,L.cell,Nat.zero_add];exact b)
   (fun j b=>by simp only[Qj,List.length_nil]at b;rw[o,r.cell,Q9 Zj];rfl) (fun j b=>by rw[A];exact r.frozen _) (fun v l=>by simp at l;subst l;exact hu)
 have y:Ac (a.setCells w.heap.size i [u]) w.heap.size ((cs.take i++d).take i++([u]++(cs.take i++d).drop (i+[u].length))) 9:=Ac.setCells _ _ _ _ r (by simp only[Qj,List.length_nil];omega);have aj:((cs.take i++d).take i++([u]++(cs.take i++d).drop (i+[u].length))).length=G:=by simp only[Qk,Ql,Qm,Qj,List.length_nil]at S|-;omega
 have aw:g<w.heap.size:=m.lt rfl
 have M:∀j v,w.cell? ⟨g,j,nN⟩=nM v->(a.setCells w.heap.size i [u]).cell? ⟨g,j,nN⟩=nM v:=fun j v h=>by
  have hc:Chg a (a.setCells w.heap.size i [u]) [w.heap.size]:=Chg.setCells Zh _ _ _ cR;rw[hc.cell (p:=⟨g,j,nN⟩) (World.block_lt_of_cell? a _ (z j v h)) (by simp;omega)];exact z j v h
 have P:∀(W:Wl),(∀x,W.cell? x=(a.setCells w.heap.size i [u]).cell? x)->(∀x,W.frozen? x=(a.setCells w.heap.size i [u]).frozen? x)->∀e k H,(Builtin.copy_ #[27,27] e #[nS (nM ⟨w.heap.size,i+1,nN⟩) (cs.length-i) k,nS (nM ⟨g,i,nN⟩) (cs.length-i) H]).run prog W= .ok (goInt (cs.drop i).length) (W.setCells w.heap.size (i+1) (cs.drop i)):=fun W o A e k H=>
  run_copy_cells W _ _ e 9 w.heap.size (i+1) (cs.length-i) k ⟨g,i,nN⟩ (cs.length-i) H (cs.drop i) underlying27 U (by rw[Q];simp only[Nat.min_def];split<;>omega)
   (fun j v b=>by rw[Addr.add_lit,o];exact M _ v (C (i+j) v (by rwa[List.getElem?_drop]at b)))
   (fun j b=>by rw[o,y.cell,Q9 Zj];rfl) (fun j b=>by rw[A];exact y.frozen _) (fun v l=>aa v (List.mem_of_mem_drop l))
 have R:AK (((w.alloc (nC (cs.take i++d).toArray 9)).drew.setCells w.heap.size i [u]).drew.setCells w.heap.size (i+1) (cs.drop i)) (nS (nM ⟨w.heap.size,0,nN⟩) (cs.length+1) G) 9 (cs.insertIdx i u):=by
  simp only[<-drew_setCells];exact PQ (w:=w) (Nat.le_of_lt hi) X ag t
 have N:Chg w (((w.alloc (nC (cs.take i++d).toArray 9)).drew.setCells w.heap.size i [u]).drew.setCells w.heap.size (i+1) (cs.drop i)) []:=
  Chg.setCells (fun h=>Zj) _ _ _ (Chg.setCells (fun h=>Zj) _ _ _ (((Chg.refl w []).alloc _).drew)).drew
 have J:=hZ R;have I:=hZ N;have an:G<=9223372036854775807:=by unfold maxLen at t;omega
 have ao:¬(G=i):=Zj
 have ap:¬(G=i+1):=Zj
 have au:¬(c=i):=Zj
 have az:IntKind.i64.wrap ((i:Int)+1)=(i:Int)+1:=by rw[IntKind.wrap_i64];omega
 have aq:(0:Int)<=(i:Int)+1:=Zj
 have ax:i<=cs.length:=Zj
 have ay:((i:Int)+1).toNat=i+1:=Zj
 have ar:(i:Int)<=(cs.length:Int):=Zj
 have aA:¬((i:Int)=(cs.length:Int)):=Zj
 have aB:(c:Int)<(cs.length:Int)+1:=Zj
 obtain⟨Z,ah⟩:=Ue (a.setCells w.heap.size i [u])
 clear m K C T D n X F r L S z y aj M R N t q Q;subst s;clear ah Z;obtain⟨f,n⟩:=Ue ((cs.take i++d).toArray:Array Vl)
 rw[<-n]at E O P J I;clear n;have ab:∀x,((w.alloc (nC f 9)).drew).cell? x=(w.drew.alloc (nC f 9)).cell? x:=fun x=>rfl
 have ad:∀x,((w.alloc (nC f 9)).drew).frozen? x=(w.drew.alloc (nC f 9)).frozen? x:=fun x=>rfl
 have ae:∀x,(((w.alloc (nC f 9)).drew.setCells w.heap.size i [u]).drew).cell? x=((w.drew.alloc (nC f 9)).setCells w.heap.size i [u]).cell? x:=fun x=>rfl
 have af:∀x,(((w.alloc (nC f 9)).drew.setCells w.heap.size i [u]).drew).frozen? x=((w.drew.alloc (nC f 9)).setCells w.heap.size i [u]).frozen? x:=fun x=>rfl
 go_enter func198,ntmps198
 go_wp2_with(first
  |(at_builtin;refine Lib.wpList_append_run _ rfl _ _ _ _ rfl _ _ rfl rfl _ _ (E _) ?_)
  |(at_builtin;refine wpList_copy_runI _ rfl _ _ 27 27 rfl _ _ rfl rfl (O _ ab ad _ _) ?_))
 go_region_law(refine step_copy_runI rfl _ _ 27 27 rfl (nS (nM ⟨w.heap.size,i+1,nN⟩) (cs.length-i) (G-(i+1))) (nS (nM ⟨g,i,nN⟩) (cs.length-i) (c-i)) (by simp[Act.eval,Act.put]) (by simp[Act.eval,Act.put]) (P _ ae af 3 (G-(i+1)) (c-i)) ?_)
 go_wp2
 go_ret
 exact⟨w.heap.size,G,rfl,J.o,I.o.none _,.inr (Q8 _)⟩
theorem QS(sv u:Vl)(B i:Nat)(cs:List Vl)(w:Wl)(a:AK w sv 9 cs)(b:Ac w B [u] 9)(j:∀g,sv.ownBlock=nM g->B≠g)(d:u.oneCell'=true)(e:∀v∈cs,v.oneCell'=true)(hi:i<=cs.length)(h:cs.length<=4294967296):
  Cl prog 198 #[sv,nI nX i,nS (nM ⟨B,0,nN⟩) 1 1] w (E1 w sv 9 cs.length (cs.insertIdx i u)):=by
 by_cases f:i=cs.length
 .subst f;exact Lr sv u B cs w a b d h
 .rcases a.one with⟨_,rfl⟩|⟨g,c,rfl,_⟩
  .simp at hi f;omega
  .by_cases k:cs.length+1<=c
   .exact JL g c i u B cs w a b (j g rfl) d e Zj k
   .exact Kl g c i u B cs w a b d e Zj Zj h
theorem Ma(g c i:Nat)(u:Vl)(B:Nat)(cs:List Vl)(w:Wl)(m:AK w (nS (nM ⟨g,0,nN⟩) cs.length c) 95 cs)(K:Ac w B [u] 95)(hu:u.oneCell'=true)(aa:∀v∈cs,v.oneCell'=true)(hi:i<cs.length)(hr:c<cs.length+1)(hn:cs.length<=4294967296):
  Cl prog 199 #[nS (nM ⟨g,0,nN⟩) cs.length c,nI nX i,nS (nM ⟨B,0,nN⟩) 1 1] w (E1 w (nS (nM ⟨g,0,nN⟩) cs.length c) 95 cs.length (cs.insertIdx i u)):=by
 have am:=m.cap63;have av:=m.capLe.2;have C:∀j v,cs[j]? =nM v->w.cell? ⟨g,j,nN⟩=nM v:=fun j v l=>m.cell rfl j v l
 obtain⟨Y,ai,ak,al,V⟩:=info_parts Jg;have U:(prog.info? 95).map (·.size)=nM 1:=Yb
 have Q:(cs.drop i).length=cs.length-i:=Qm
 have T:(Builtin.firstCells Y.size i (nS (nM ⟨g,0,nN⟩) i c)).run prog w.drew= .ok (cs.take i).toArray w.drew:=by
  rw[al]
  exact run_firstCells_some w.drew 1 i ⟨g,0,nN⟩ i c (cs.take i) (by rw[Ql];omega) (fun j v b=>by
   rw[Addr.add_lit,Nat.zero_add];rw[List.getElem?_take]at b;split at b
   .exact C j v b
   .cases b)
 have D:i+(cs.length+1-i)=cs.length+1:=Zj
 have E:∀e,(Builtin.append_ #[105,3] e #[nS (nM ⟨g,0,nN⟩) i c,nI nX ((cs.length:Int)+1-(i:Int))]).run prog w=
   .ok (nS (nM ⟨w.heap.size,0,nN⟩) (cs.length+1) (grownCap w (cs.length+1) c 95)) (w.drew.alloc (nC ((cs.take i).toArray++Builtin.zeroCells (.nilIface:Vl).cells (cs.length+1-i)++Builtin.zeroCells (.nilIface:Vl).cells (grownCap w (cs.length+1) c 95-(cs.length+1))) 95)):=fun e=>by
  have h:=Lib.run_append_grow_zeros w 105 3 e 95 Y _ nX nX underlying105 underlying3 ai ak (nM ⟨g,0,nN⟩) i c (cs.take i) T (cs.length+1-i) Zj Zj Zj Zj (by rw[V];omega) (by rw[V,D];exact growslice_fits hr Zj);rw[D]at h;rw[show(cs.length:Int)+1-(i:Int)=((cs.length+1-i:Nat):Int)from by omega];exact h
 obtain⟨G,q⟩:=Ue (grownCap w (cs.length+1) c 95)
 have ag:cs.length+1<=G:=by rw[q];exact grownCap_ge w _ _ _
 have t:G<=maxLen:=by rw[q];exact grownCap_le_maxLen w (cs.length+1) c 95 (by unfold maxLen;omega)
 obtain⟨d,F⟩:=Ue (List.replicate (cs.length+1-i) (.nilIface:Vl)++List.replicate (G-(cs.length+1)) (.nilIface:Vl):List Vl)
 have X:d.length+i=G:=by rw[F];simp only[Qk,List.length_replicate];omega
 have n:(cs.take i).toArray++Builtin.zeroCells (.nilIface:Vl).cells (cs.length+1-i)++Builtin.zeroCells (.nilIface:Vl).cells (G-(cs.length+1))=(cs.take i++d).toArray:=by
  apply Array.toList_inj.1;rw[Array.toList_append,Array.toList_append,G8 _ rfl,G8 _ rfl,F];simp
 rw[<-q,n]at E;obtain⟨a,s⟩:=Ue (w.drew.alloc (nC (cs.take i++d).toArray 95))
 have r:Ac a w.heap.size (cs.take i++d) 95:=by rw[s];exact Ac.new w.drew _ _
 have L:Ac a B [u] 95:=by rw[s];exact(K.drew).alloc _
 have S:(cs.take i++d).length=G:=by rw[Qk,Ql];omega
 have z:∀j v,w.cell? ⟨g,j,nN⟩=nM v->a.cell? ⟨g,j,nN⟩=nM v:=fun j v h=>by rw[s];exact(((Chg.refl w []).drew).alloc _).keeps h
 have O:∀(W:Wl),(∀x,W.cell? x=a.cell? x)->(∀x,W.frozen? x=a.frozen? x)->∀e k,(Builtin.copy_ #[105,105] e #[nS (nM ⟨w.heap.size,i,nN⟩) (cs.length+1-i) k,nS (nM ⟨B,0,nN⟩) 1 1]).run prog W= .ok (goInt [u].length) (W.setCells w.heap.size i [u]):=fun W o A e k=>
  run_copy_cells W _ _ e 95 w.heap.size i (cs.length+1-i) k ⟨B,0,nN⟩ 1 1 [u] underlying105 U (by simp only[Nat.min_def,Qj,List.length_nil];split<;>omega)
   (fun j v b=>by rw[Addr.add_lit,o,L.cell,Nat.zero_add];exact b)
   (fun j b=>by simp only[Qj,List.length_nil]at b;rw[o,r.cell,Q9 Zj];rfl) (fun j b=>by rw[A];exact r.frozen _) (fun v l=>by simp at l;subst l;exact hu)
 have y:Ac (a.setCells w.heap.size i [u]) w.heap.size ((cs.take i++d).take i++([u]++(cs.take i++d).drop (i+[u].length))) 95:=Ac.setCells _ _ _ _ r (by simp only[Qj,List.length_nil];omega);have aj:((cs.take i++d).take i++([u]++(cs.take i++d).drop (i+[u].length))).length=G:=by simp only[Qk,Ql,Qm,Qj,List.length_nil]at S|-;omega
 have aw:g<w.heap.size:=m.lt rfl
 have M:∀j v,w.cell? ⟨g,j,nN⟩=nM v->(a.setCells w.heap.size i [u]).cell? ⟨g,j,nN⟩=nM v:=fun j v h=>by
  have hc:Chg a (a.setCells w.heap.size i [u]) [w.heap.size]:=Chg.setCells Zh _ _ _ cR;rw[hc.cell (p:=⟨g,j,nN⟩) (World.block_lt_of_cell? a _ (z j v h)) (by simp;omega)];exact z j v h
 have P:∀(W:Wl),(∀x,W.cell? x=(a.setCells w.heap.size i [u]).cell? x)->(∀x,W.frozen? x=(a.setCells w.heap.size i [u]).frozen? x)->∀e k H,(Builtin.copy_ #[105,105] e #[nS (nM ⟨w.heap.size,i+1,nN⟩) (cs.length-i) k,nS (nM ⟨g,i,nN⟩) (cs.length-i) H]).run prog W= .ok (goInt (cs.drop i).length) (W.setCells w.heap.size (i+1) (cs.drop i)):=fun W o A e k H=>
  run_copy_cells W _ _ e 95 w.heap.size (i+1) (cs.length-i) k ⟨g,i,nN⟩ (cs.length-i) H (cs.drop i) underlying105 U (by rw[Q];simp only[Nat.min_def];split<;>omega)
   (fun j v b=>by rw[Addr.add_lit,o];exact M _ v (C (i+j) v (by rwa[List.getElem?_drop]at b)))
   (fun j b=>by rw[o,y.cell,Q9 Zj];rfl) (fun j b=>by rw[A];exact y.frozen _) (fun v l=>aa v (List.mem_of_mem_drop l))
 have R:AK (((w.alloc (nC (cs.take i++d).toArray 95)).drew.setCells w.heap.size i [u]).drew.setCells w.heap.size (i+1) (cs.drop i)) (nS (nM ⟨w.heap.size,0,nN⟩) (cs.length+1) G) 95 (cs.insertIdx i u):=by
  simp only[<-drew_setCells];exact PQ (w:=w) (Nat.le_of_lt hi) X ag t
 have N:Chg w (((w.alloc (nC (cs.take i++d).toArray 95)).drew.setCells w.heap.size i [u]).drew.setCells w.heap.size (i+1) (cs.drop i)) []:=
  Chg.setCells (fun h=>Zj) _ _ _ (Chg.setCells (fun h=>Zj) _ _ _ (((Chg.refl w []).alloc _).drew)).drew
 have J:=hZ R;have I:=hZ N;have an:G<=9223372036854775807:=by unfold maxLen at t;omega
 have ao:¬(G=i):=Zj
 have ap:¬(G=i+1):=Zj
 have au:¬(c=i):=Zj
 have az:IntKind.i64.wrap ((i:Int)+1)=(i:Int)+1:=by rw[IntKind.wrap_i64];omega
 have aq:(0:Int)<=(i:Int)+1:=Zj
 have ax:i<=cs.length:=Zj
 have ay:((i:Int)+1).toNat=i+1:=Zj
 have ar:(i:Int)<=(cs.length:Int):=Zj
 have aA:¬((i:Int)=(cs.length:Int)):=Zj
 have aB:(c:Int)<(cs.length:Int)+1:=Zj
 obtain⟨Z,ah⟩:=Ue (a.setCells w.heap.size i [u])
 clear m K C T D n X F r L S z y aj M R N t q Q;subst s;clear ah Z;obtain⟨f,n⟩:=Ue ((cs.take i++d).toArray:Array Vl)
 rw[<-n]at E O P J I;clear n;have ab:∀x,((w.alloc (nC f 95)).drew).cell? x=(w.drew.alloc (nC f 95)).cell? x:=fun x=>rfl
 have ad:∀x,((w.alloc (nC f 95)).drew).frozen? x=(w.drew.alloc (nC f 95)).frozen? x:=fun x=>rfl
 have ae:∀x,(((w.alloc (nC f 95)).drew.setCells w.heap.size i [u]).drew).cell? x=((w.drew.alloc (nC f 95)).setCells w.heap.size i [u]).cell? x:=fun x=>rfl
 have af:∀x,(((w.alloc (nC f 95)).drew.setCells w.heap.size i [u]).drew).frozen? x=((w.drew.alloc (nC f 95)).setCells w.heap.size i [u]).frozen? x:=fun x=>rfl
 go_enter func199,ntmps199
 go_wp2_with(first
  |(at_builtin;refine Lib.wpList_append_run _ rfl _ _ _ _ rfl _ _ rfl rfl _ _ (E _) ?_)
  |(at_builtin;refine wpList_copy_runI _ rfl _ _ 105 105 rfl _ _ rfl rfl (O _ ab ad _ _) ?_))
 go_region_law(refine step_copy_runI rfl _ _ 105 105 rfl (nS (nM ⟨w.heap.size,i+1,nN⟩) (cs.length-i) (G-(i+1))) (nS (nM ⟨g,i,nN⟩) (cs.length-i) (c-i)) (by simp[Act.eval,Act.put]) (by simp[Act.eval,Act.put]) (P _ ae af 3 (G-(i+1)) (c-i)) ?_)
 go_wp2
 go_ret
 exact⟨w.heap.size,G,rfl,J.o,I.o.none _,.inr (Q8 _)⟩
theorem N5(sv u:Vl)(B i:Nat)(cs:List Vl)(w:Wl)(a:AK w sv 95 cs)(b:Ac w B [u] 95)(j:∀g,sv.ownBlock=nM g->B≠g)(d:u.oneCell'=true)(e:∀v∈cs,v.oneCell'=true)(hi:i<=cs.length)(h:cs.length<=4294967296):
  Cl prog 199 #[sv,nI nX i,nS (nM ⟨B,0,nN⟩) 1 1] w (E1 w sv 95 cs.length (cs.insertIdx i u)):=by
 by_cases f:i=cs.length
 .subst f;exact NA sv u B cs w a b d h
 .rcases a.one with⟨_,rfl⟩|⟨g,c,rfl,_⟩
  .simp at hi f;omega
  .by_cases k:cs.length+1<=c
   .exact Lq g c i u B cs w a b (j g rfl) d e Zj k
   .exact Ma g c i u B cs w a b d e Zj Zj h
end
end Go.Proofs.YtkfnkppdhcaeoaaGreatDoor

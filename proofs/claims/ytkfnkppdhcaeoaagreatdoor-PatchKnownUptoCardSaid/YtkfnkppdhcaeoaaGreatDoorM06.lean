/- Part 6 of the proof of coreBase. -/
import Derived.Lib.AppendIntMem
import Derived.Lib.OwnBridge
import Derived.Maps.OwnOps
import Derived.Maps.OwnSet
import Derived.Maps.Views
import Derived.StringKeys
import Derived.Test.YtkfnkppdhcaeoaaGreatDoorM04
import Derived.Test.YtkfnkppdhcaeoaaGreatDoorM05
set_option maxRecDepth 100000
set_option maxHeartbeats 32000000
set_option linter.all false
namespace Go.Proofs.YtkfnkppdhcaeoaaGreatDoor
open Go renaming Calls->Cl,TypeId->Ti,Value->Vl,World->Wl
open Go.Value renaming agg->nA,iface->nF,int->nI,pointer->nP,slice->nS,string->nG,tuple->nT
open Go.IntKind renaming i64->nX
open Go.Ending renaming returned->nR
open Go.Obj renaming cells->nC
open Option renaming none->nN,some->nM
section
open _root_.Go.Proofs.Tryz
open Go Go.Shelf Go.RowKit Go.Lib Go.Sort Tree
def RT:Type:={s:BY//Utf.Al s=true/\s.size<=2147483648}
instance:Inhabited RT:=⟨⟨ByteArray.empty,ZM,ZM⟩⟩
def QH(x:RT):Vl:= nG x.1
def Wm(x y:RT):Int:=Utf.BK x.1 y.1
theorem ai(x y:RT):ltOf Wm x y=decide (Utf.BK x.1 y.1<0):=rfl
theorem aE:SWO (ltOf Wm) where
 irrefl x:=by simp[ai,Utf.Gc]
 trans x y z h1 h2:=by
  simp only[ai,decide_eq_true_eq]at*;exact Utf.Ev h1 h2
 ntrans x y z h1 h2:=by
  simp only[ai,decide_eq_false_iff_not]at*;intro d;have g:=Utf.Ej x.1 y.1;have h:=Utf.Ej y.1 z.1;have i:=Utf.Ej x.1 z.1;by_cases e:Utf.BK x.1 y.1=0
  .have:=Utf.FJ e;rw[this]at d;exact h2 d
  .by_cases f:Utf.BK y.1 z.1=0
   .have:=Utf.FJ f;rw[<-this]at d;exact h1 d
   .have:=Utf.Ev (a:=z.1) (b:=y.1) (c:=x.1) Zj Zj
    omega
theorem aF(x y:RT)(a:ltOf Wm x y=false)(b:ltOf Wm y x=false):x=y:=by
 simp only[ai,decide_eq_false_iff_not]at*;have c:=Utf.Ej x.1 y.1;exact Subtype.ext (Utf.FJ Zj)
theorem AB.grew{w w':Wl}(h:AB w w' []):∃q os,w'=grow (w.drewN q) os:=by
 refine⟨w'.drawn-w.drawn,w'.heap.extract w.heap.size w'.heap.size, ?_⟩
 have d:w'.heap=w.heap++w'.heap.extract w.heap.size w'.heap.size:=by
  apply Array.ext_getElem?;intro i;by_cases hi:i<w.heap.size
  .rw[Array.getElem?_append_left hi]
   exact h.block i hi Zh
  .rw[Array.getElem?_append_right Zj,Array.getElem?_extract]
   have:=h.size;by_cases a:i<w'.heap.size
   .rw[Qr Zj]
    congr 1
    omega
   .rw[Qs Zj,Array.getElem?_eq_none Zj]
 have f:=h.drawn;have b:=h.os;have a:=h.tape;have c:=h.output
 cases w with
 |mk heap m drawn os k=>
  cases w' with
  |mk g n e j l=>
   simp only at*;subst b;subst a;subst c;unfold grow World.drewN;simp only;rw[<-d]
   congr 1
   omega
theorem XO(a c size:Nat)(w:Wl):CmpLays1 prog 157 #[] QH Wm a c size w:=by
 intro m os d _ x y;refine(I6 x.1 y.1 _ x.2.2 y.2.2 x.2.1 y.2.1).mono ?_;rintro e w' ⟨rfl,b⟩;exact⟨rfl,b.grew⟩
theorem VI(g b:Nat)(ks:List RT)(w:Wl)(u:ks.length<=4294967296)(l:AK w (nS (nM ⟨g,0,nN⟩) ks.length b) 9 (ks.map QH)):
  Cl prog 156 #[nS (nM ⟨g,0,nN⟩) ks.length b,.func (.func 157) #[] #[]] w fun e w'=>
   e= nR (nT #[])/\AK w' (nS (nM ⟨g,0,nN⟩) ks.length b) 9 ((ks.mergeSort fun x y=> !(ltOf Wm) y x).map QH)/\Chg w w' [g]:=by
 have h:∀args w,(callFunc 157 args).run prog w= .ok (.enter 157 args) w:=enters_of func157 Yb rfl
 have c:=l;unfold AK at c;rw[List.length_map]at c;obtain⟨t,s,a,_,o,_,_,_,j⟩:=holds_of_ownsRow c Zh
 injection a with a _ m
 injection a with a
 injection a with a
 subst a;subst m;have d:=Any.slices_SortFunc_total bB QH (fun _=>rfl) Wm aE 157 #[] g 0 b ks.toArray w h (XO g 0 _ w) j o (by simp;omega) aF;rw[List.size_toArray]at d;change Cl prog 156 _ _ _ at d;refine d.mono ?_;rintro e w' ⟨rfl,n,os,rfl⟩;refine⟨rfl, ?_, ?_⟩
 .have i:=ownsRow_putRow (q:=n) (k:=ks.length) (ys:=ks.mergeSort fun x y=> !(ltOf Wm) y x) c Zh (Q8 _)
  have f:=ownsRow_grow i 0 os;unfold AK sortWorld;rw[List.length_map,List.length_mergeSort];rw[Qn Zh]at f;exact f
 .refine⟨rfl,rfl,rfl,by simp[sortWorld,putRow,mapBlock,Sort.ahead],fun k p r=> ?_⟩
  unfold sortWorld;rw[show(grow (putRow QH (Sort.ahead w n) g 0 (ks.mergeSort fun x y=> !(ltOf Wm) y x).toArray) os).heap[k]? =(putRow QH (Sort.ahead w n) g 0 (ks.mergeSort fun x y=> !(ltOf Wm) y x).toArray).heap[k]? from Array.getElem?_append_left (by simpa[putRow,mapBlock,Sort.ahead]using p)];have:g≠k:=fun e=>r (by simp[e])
  simp[putRow,mapBlock,Sort.ahead,Array.getElem?_modify,this]
def V0(x:RT):BY:=x.1
theorem OH(l:List RT):Ad (l.map V0)=l.map QH:=by unfold Ad QH V0;rw[List.map_map];rfl
theorem NZ:∀(ks:List BY),(∀s∈ks,Utf.Al s=true)->(∀s∈ks,s.size<=2147483648)->∃l:List RT,l.map V0=ks
 |[],_,_=>⟨[],rfl⟩
 |s::ks,c,d=>by
  obtain⟨l,e⟩:=NZ ks (fun t b=>c t (by simp[b])) (fun t b=>d t (by simp[b]))
  let x:RT:=⟨s,c s Zh,d s Zh⟩
  exact⟨x::l,(List.map_cons (f:=V0) (a:=x) (l:=l)).trans (by rw[e];rfl)⟩
theorem XN(l:List RT):(l.mergeSort fun x y=> !(ltOf Wm) y x).map V0=AY (l.map V0):=by
 unfold AY;rw[List.map_mergeSort];intro a _ b _;rfl
def Wg(ks:List BY)(a:Option Addr)(b:Nat)(w:Wl)(e:Ending)(w':Wl):Prop:=
 e= nR (nT #[])/\AK w' (nS a ks.length b) 9 (Ad (AY ks))/\Chg w w' (Vl.slice a ks.length b).ownBlock.toList
theorem J9(ks:List BY)(a:Option Addr)(b:Nat)(w:Wl)(o:∀s∈ks,Utf.Al s=true)(p:∀s∈ks,s.size<=2147483648)(f:ks.length<=4294967296)(c:AK w (nS a ks.length b) 9 (Ad ks)):
  Cl prog 156 #[nS a ks.length b,.func (.func 157) #[] #[]] w (Wg ks a b w):=by
 by_cases d:ks=[]
 .subst d
  have:=AnyF.slices_SortFunc_none bA a b (.func (.func 157) #[] #[]) w;change Cl prog 156 _ _ _ at this;refine this.mono ?_;rintro e w' ⟨rfl,rfl⟩;exact⟨rfl,by simpa[AY]using c,Chg.refl _ _⟩
 .obtain⟨l,rfl⟩:=NZ ks o p
  obtain⟨q,r,h,n⟩:=c.form
  injection h with i _ j
  subst i;subst j;obtain⟨g,rfl⟩:=n (by simpa[Ad]using d);rw[List.length_map]at f c|-;refine(VI g b l w f (by rw[<-OH];exact c)).mono ?_;rintro e w' ⟨rfl,k,m⟩;refine⟨rfl, ?_,by simpa[Vl.ownBlock]using m⟩;rw[<-XN,List.length_map];rw[OH];exact k
end
section
open _root_.Go.Proofs.Tryz
open Go Go.RowKit
theorem Lp(p:Addr)(x:Vl)(n:Int)(w:Wl)(d:w.cell? p=nM x)(g:w.frozen? p=false):
  CallsD prog 105 #[nP (nM p)] (.panicking [{v:= nF 50 (nI nX n),recovered:=false}]) w fun e b w'=>
   e= nR (nT #[])/\b= .panicking [{v:= nF 50 (nI nX n),recovered:=true}]/\w'=w.setCell p (nF 50 (nI nX n)):=by
 have f:∀(k:Int) (w:Wl),(Instr.typeAssert (nF 50 (nI nX k)) 20 50 false).run prog w= .ok (nI nX k) w:=fun _ _=>Yb
 refine callsD_of_wpS func105 rfl fun c cs a=> ?_
 apply wpS_seq;apply wpS_region;simp[wpOpsS,go_sem,recoverD,a,ntmps105,Exit.thenS];refine wpS_of_wp ?_;simp[Array.replicate];go_wp2
 simp_all[bodyPostS,results,results105]
theorem DZ(p:Addr)(w:Wl):
  CallsD prog 105 #[nP (nM p)] .returning w fun e c w'=>e= nR (nT #[])/\c= .returning/\w'=w:=by
 refine callsD_of_wpS func105 rfl fun a cs b=> ?_
 apply wpS_seq;apply wpS_region;simp[wpOpsS,go_sem,recoverD,b,ntmps105,Exit.thenS];refine wpS_of_wp ?_;simp[Array.replicate];go_wp2
 cases a
 simp_all[bodyPostS,results,results105]
theorem OX(B:Nat)(x:Vl)(n:Int)(w:Wl)(a:Ac w B [x] 50):
  CallsD prog 87 #[nP (nM ⟨B,0,nN⟩)] (.panicking [{v:=KN n,recovered:=false}]) w fun e d w'=>
   e= nR (nT #[])/\d= .panicking [{v:=KN n,recovered:=true}]/\Ac w' B [nI nX n] 50/\Chg w w' [B]:=by
 have h:∀(k:Int) (w:Wl),(Instr.typeAssert (nF 174 (nA #[nI nX k])) 20 174 true).run prog w= .ok (nT #[nA #[nI nX k],.bool true]) w:=fun _ _=>Yb
 have b:=a.cell 0;simp only[Qa]at b;have i:=a.frozen 0;have g:=a.lt;refine callsD_of_wpS func87 rfl fun f cs c=> ?_
 apply wpS_seq;apply wpS_region;simp[wpOpsS,go_sem,recoverD,c,ntmps87,Exit.thenS];unfold KN;refine wpS_of_wp ?_;simp[Array.replicate];go_wp2
 simp only[bodyPostS,results,results87];refine⟨trivial,_,rfl,nT #[],by simp[go_sem],rfl,rfl, ?_, ?_⟩
 .exact(a.set 0 (nI nX n)).alloc _
 .exact((Chg.refl w [B]).setCell _ _ (fun _=>Zh)).alloc _
theorem Qu(p:Addr)(w:Wl):
  CallsD prog 87 #[nP (nM p)] .returning w fun e c w'=>e= nR (nT #[])/\c= .returning/\w'=w:=by
 refine callsD_of_wpS func87 rfl fun a cs b=> ?_
 apply wpS_seq;apply wpS_region;simp[wpOpsS,go_sem,recoverD,b,ntmps87,Exit.thenS];refine wpS_of_wp ?_;simp[Array.replicate];go_wp2
 cases a
 simp_all[bodyPostS,results,results87]
def GB(R:Wl->Ending->Wl->Prop)(c:List Nat)(w:Wl)(e:Ending)(w':Wl):Prop:=
 ∃(a b:Wl) (B:Nat),Chg w a []/\w.heap.size<=B/\B<a.heap.size/\Chg b w' [B]/\Chg a b c/\((R a (nR (nT #[])) b/\e= nR (nI nX 0))\/(∃k:Int,R a (By k) b/\e= nR (nI nX k)))
theorem Qt(R:Wl->Ending->Wl->Prop)(g:List Nat)(w d b:Wl)(a:Act)(n:Int)(B:Nat)(o:a.defers=[{target:= .fn (.func 87) #[nP (nM ⟨B,0,nN⟩)],args:=#[]}])(j:a.tmps.getD 2 undef= nP (nM ⟨B,0,nN⟩))(l:Ac b B [nI nX 0] 50)(h:Chg w d [])(q:w.heap.size<=B)(p:B<d.heap.size)(i:Chg d b g)(m:R d (By n) b):
  bodyPostD prog f49 (GB R g w) (.panic [{v:=KN n,recovered:=false}]) a b:=by
 show Leaves _ _ a.tmps _ a.defers (.panicking _) b
 rw[o];refine leaves_cons (f:=87) (args:=#[nP (nM ⟨B,0,nN⟩)]) Zh (by simp[go_sem]) ?_;refine(OX B (nI nX 0) n b l).mono ?_;rintro e t u ⟨rfl,rfl,r,s⟩;have c:=r.cell 0;simp only[Qa]at c;refine⟨nI nX n, ?_,d,b,B,h,q,p,s,i,.inr ⟨n,m,rfl⟩⟩;have k:a.tmps[2]?.getD undef= nP (nM ⟨B,0,nN⟩):=by simpa using j
 simp[results,results49,go_sem,k,c]
theorem Xp(n:Nat)(i:Array Vl)(d:List Nat)(w:Wl)(R:Wl->Ending->Wl->Prop)(u:∀b,b∈d->b<w.heap.size)(D:∀w,(callFunc n i).run prog w= .ok (.enter n i) w)(s:∀c,Chg w c []->Cl prog n i c (R c))(r:∀c e a,R c e a->Chg c a d/\(e= nR (nT #[])\/∃k:Int,e=By k)):
  Cl prog 49 #[.func (.func n) #[] i] w (GB R d w):=by
 have G:∀(q:Fn) (first p:Array Vl) (w:Wl),(Instr.makeFunc q first p).run prog w= .ok (.func q first p) w:=fun _ _ _ _=>rfl
 have x:=hZ s;have z:=hZ r;have v:=UD (Ac (w.alloc (nC #[nI nX 0] 50)) w.heap.size [nI nX 0] 50) (Ac.new w [nI nX 0] _);have y:=UD (w.heap.size∉d) (fun h=>Nat.lt_irrefl _ (u _ h));clear s r u;go_enter_defers func49,ntmps49
 go_wp2_with((refine(x.o _ (by exact cg cR)).mono ?_;intro e a l;obtain⟨j,B⟩:=z.o _ _ _ l;have o:=hZ l;have m:=hZ j;have g:=hZ (v.o.kept j y.o);have H:=g.o.lt;obtain⟨F,E,C⟩:=g.o.cells1;clear l j;rcases B with rfl|⟨k,t⟩;rotate_left;(unfold By at t;subst t)))
 .exact Qt R d w _ a _ _ w.heap.size rfl rfl g.o ((Chg.refl w []).alloc _) (Q8 _) Zh m.o o.o
 .refine leaves_cons (f:=87) (args:=#[nP (nM ⟨w.heap.size,0,nN⟩)]) Zh (by simp[go_sem]) ?_
  refine(Qu ⟨w.heap.size,0,nN⟩ _).mono ?_;rintro e I J ⟨rfl,rfl,rfl⟩;have A:(a.setCell ⟨w.heap.size,0,nN⟩ (nI nX 0)).cell? ⟨w.heap.size,0,nN⟩=nM (nI nX 0):=(g.o.set 0 _).cell 0;simp[Leaves,settle,results,results49,go_sem,A];exact⟨_,a,w.heap.size,(Chg.refl w []).alloc _,Q8 _,Zh,(Chg.refl a _).setCell _ _ Zh,m.o,.inl ⟨o.o,rfl⟩⟩
end
section
open _root_.Go.Proofs.Tryz
open Go Go.RowKit Go.Maps Go.WideMaps
def Ra(s:BY):Lit:= .string s.data.toList
theorem Rb{s t:BY}(h:Ra s=Ra t):s=t:=by
 unfold Ra at h
 injection h with h
 cases s with|mk a=>cases t with|mk b=>cases a;cases b;simp_all
def E2(w:Wl)(m:Nat)(ks:List BY)(k:Nat):Prop:=
 ∃D:DataW Nat,w.ownsMap prog 9 (plainElem prog 3) m k D/\IsMap D/\(∀s,Maps.has D (Ra s)=true↔s∈ks.take k)/\
  ∀j s,j<k->ks[j]? =some s->D.atKey (Ra s) (.lit (.int .i64 0))= .lit (.int .i64 j)
theorem MZ:Maps.Keyed prog 9:=string_keyed underlying9
theorem Pg{s:BY}(a:s.size<=maxLen):keyOf prog 9 (.string s)=some (Ra s):=keyOf_string_mk underlying9 a
theorem E2.made(w:Wl)(ks:List BY):E2 (w.alloc (.map #[] 0)) w.heap.size ks 0:=
 ⟨.map [],World.ownsMap_made _ _ _ _,Maps.isMap_empty,fun s=>by simp[Maps.has_eq],fun j s h=>Zj⟩
theorem E2.lt{w:Wl}{m:Nat}{ks:List BY}{k:Nat}(h:E2 w m ks k):m<w.heap.size:=by
 obtain⟨D,h,_⟩:=h;exact h.lt
theorem E2.kept{w w':Wl}{m:Nat}{ks:List BY}{k:Nat}{bs:List Nat}(h:E2 w m ks k)(f:Chg w w' bs)(g:m∉bs:=by simp):E2 w' m ks k:=by
 obtain⟨D,⟨c,b,a,d⟩,e⟩:=h;exact⟨D,⟨c,b,(f.block m (Array.getElem?_eq_some_iff.1 a).1 g).trans a,d⟩,e⟩
theorem E2.store{w:Wl}{m:Nat}{ks:List BY}{k:Nat}{s:BY}(h:E2 w m ks k)(f:ks[k]? =some s)(q:s∉ks.take k)(x:s.size<=maxLen)(z:k<=4294967296):
  ∃w',(Instr.mapUpdate 269 (.map (some m)) (.string s) (.int .i64 k)).run prog w= .ok () w'/\E2 w' m ks (k+1)/\Chg w w' [m]:=by
 obtain⟨D,n,d,o,p⟩:=h;obtain⟨w',v,l,c⟩:=n.update MZ underlying269 (by unfold maxLen;omega) (Pg x) (plainElem_int (H:=Nat) underlying3 (a:=(k:Int)) (WalkArith.wf_i64 Zj));have g:WideAt.IsKeyLit (Ra s):=trivial;refine⟨w',v,⟨_,l,d.put _ _,fun t=> ?_,fun j t y b=> ?_⟩,⟨c.os,c.tape,c.output,c.size,fun i hi u=>c.block i hi fun e=>u (by simpa using e)⟩⟩
 .rw[List.take_add_one,f]
  by_cases e:t=s
  .subst e
   simp[Maps.has_put_same d g]
  .rw[Maps.has_put_other (fun h=>e (Rb h))]
   rw[o];simp[e]
 .by_cases e:t=s
  .subst e
   have:j=k:=by
    by_cases r:j=k
    .exact r
    .exact absurd (List.mem_iff_getElem?.2 ⟨j,by rw[List.getElem?_take];simp[show j<k by omega,b]⟩) q
   subst this;exact Maps.atKey_put_same d g _ _
  .rw[Maps.atKey_put_other (fun h=>e (Rb h))]
   refine p j t ?_ b
   have:j≠k:=by rintro rfl;rw[f]at b;injection b with b;exact e b.symm
   omega
theorem UC(w:Wl):(zeroValue 3).run prog w= .ok (.int .i64 0) w:=Yb
theorem E2.look_ok{w:Wl}{m:Nat}{ks:List BY}{k:Nat}(h:E2 w m ks k){s:BY}(g:s.size<=maxLen)(b:Bool)(e:b=true↔s∈ks.take k):
  ∃c:Int,(Instr.lookup 269 (.map (some m)) (.string s) true).run prog w= .ok (.tuple #[.int .i64 c,.bool b]) w:=by
 obtain⟨D,a,j,d,l⟩:=h;obtain⟨v,n,f,i⟩:=a.look_ok MZ underlying269 (UC w) (plainElem_int underlying3 ZM) (Pg g);obtain⟨c,rfl,_⟩:=plainElem_int_inv underlying3 i;refine⟨c, ?_⟩;rw[f];have:Maps.has D (Ra s)=b:=by rw[Bool.eq_iff_iff,d,e]
 rw[this]
theorem E2.look{w:Wl}{m:Nat}{ks:List BY}{k:Nat}(h:E2 w m ks k){s:BY}(l:s.size<=maxLen){j:Nat}(f:j<k)(g:ks[j]? =some s):
  (Instr.lookup 269 (.map (some m)) (.string s) false).run prog w= .ok (.int .i64 j) w:=by
 obtain⟨D,a,n,o,b⟩:=h;obtain⟨c,i,d,_⟩:=a.lookup_int MZ underlying269 underlying3 (UC w) (Pg l);rw[i]
 have e:c=(j:Int):=by
  have e:=d.symm.trans (b j s f g);simpa using e
 rw[e]
theorem CV{c:Array Oper}{rest:List Oper}{o:Oper}{a:Act}{Q:Exit->Act->Wl->Prop}(w:Wl)(g:o.guard=none)(m x v:Operand)(l:o.op=Op.mapUpdate 269 m x v)(b k:Nat)(ks:List BY)(i:a.eval m= .map (some b))(n:E2 w b ks k)(s:BY)(t:a.eval x= .string s)(r:a.eval v= .int .i64 k)(h:ks[k]? =some s)(f:s∉ks.take k)(q:s.size<=maxLen)(j:k<=4294967296)(d:∀w',E2 w' b ks (k+1)->Chg w w' [b]->wpList prog c Q rest (a.put o.dst undef) w'):
  wpList prog c Q (o::rest) a w:=by
 refine wpList_plain g fun z e=> ?_
 obtain⟨w',p,u,y⟩:=n.store h f q j;unfold Oper.wp;simp only[execOp,l,i,t,r,Sem.run_bind,p,Result.andThen_ok,Sem.run_pure];exact e _ _ (d w' u y)
end
section
open _root_.Go.Proofs.Tryz
open Go Go.RowKit Tree
theorem C3.grown{w w':Wl}{F c:Nat->Prop}{T:Ti}{b:Nat}{sv:Vl}{l:List Tr}{vs:List Vl}(h:C3 w F T b sv l vs)(d:Chg w w' [])(i:∀k,F k->c k)(f:∀k,c k->F k\/w.heap.size<=k)(n:∀k,c k->k<w'.heap.size):
  C3 w' c T b sv l vs:=by
 refine⟨h.blk.kept d,h.lst.kept d,Ak.kept (d.keepsF h.lt) i l vs h.items,fun j=> ?_,fun g e=>⟨fun m=> ?_,(h.apart' g e).2⟩,n⟩
 .rcases f b j with a|a
  .exact h.apart a
  .have:=h.blk.lt;omega
 .rcases f g m with a|a
  .exact(h.apart' g e).1 a
  .have:=h.lst.lt e;omega
theorem FZ.after{F:Nat->Prop}{T:Ti}{b:Nat}{sv:Vl}{l:List Tr}{w f w2:Wl}(e:Chg w f [])(h:FZ F T b sv l f w2):FZ F T b sv l w w2:=by
 obtain⟨j,k,a,c,d⟩:=h;refine⟨j,k,a,(e.none _).trans c,fun g i=> ?_⟩;have:=e.size
 rcases d g i with d|d
 .exact .inl d
 .exact .inr Zj
theorem Ak.mk{w:Wl}{F:Nat->Prop}:∀(ts:List Tr) (vs:List Vl),ts.length=vs.length->(∀(i:Nat) (t:Tr) (v:Vl),ts[i]? =nM t->vs[i]? =nM v->Af w F t v)->Ak w F ts vs
 |[],[],_,_=>by simp[Ak]
 |[],_::_,h,_=>by simp at h
 |_::_,[],h,_=>by simp at h
 |t::ts,v::vs,h,hi=>by
  simp only[Ak];exact⟨v,vs,rfl,hi 0 t v rfl rfl,Ak.mk ts vs (by simpa using h) fun i c d a b=>hi (i+1) c d (by simpa using a) (by simpa using b)⟩
def Kv(ks:List BY)(vs:List Vl):List Vl:=(AY ks).map fun s=>vs.getD (A5 ks s) .nilIface
theorem Mw{ks:List BY}{vs:List Vl}(b:ks.length=vs.length){i:Nat}{s:BY}(h:(AY ks)[i]? =nM s):∃v,vs[A5 ks s]? =nM v/\(Kv ks vs)[i]? =nM v:=by
 have a:s∈ks:=D9.1 (Qi h);have c:=Dk a;refine⟨vs[A5 ks s]' Zj,Q9 Zj, ?_⟩;unfold Kv;rw[List.getElem?_map,h,Option.map_some,List.getD_eq_getElem?_getD,Q9 Zj];rfl
theorem EP(ks:List BY)(vs:List Vl):(Kv ks vs).length=ks.length:=by unfold Kv;rw[List.length_map,A3]
theorem Mx{w:Wl}{F:Nat->Prop}{ks:List BY}{l:List Tr}{vs:List Vl}(d:ks.length=l.length)(h:Ak w F l vs):Ak w F (LA ks l) (Kv ks vs):=by
 refine Ak.mk _ _ (by rw[DD,EP]) fun i t v c k=> ?_
 have hi:i<(AY ks).length:=by
  have:=(Qc.1 c).1;rwa[DD,<-A3]at this
 have e:=Q9 hi;obtain⟨m,f,a⟩:=Rp d e;obtain⟨n,g,b⟩:=Mw (by rw[d,h.length]) e
 rw[c]at a;injection a with a;subst a
 rw[k]at b;injection b with b;subst b
 obtain⟨o,c1,j⟩:=h.get _ _ f
 rw[g]at c1;injection c1 with c1;subst c1
 exact j
def Yg(F:Nat->Prop)(T:Ti)(b:Nat)(sv:Vl)(l:List Tr)(w:Wl)(e:Ending)(w':Wl):Prop:=
 e= nR (nT #[])/\∃a:Nat->Prop,(∀k,F k->a k)/\(∀k,a k->k<w.heap.size->F k)/\FZ a T b sv l w w'
theorem GA{w:Wl}{b:Nat}{a c d e f:Vl}{T:Ti}(h:Ac w b [a,c,d,e,f] T):b<w.heap.size/\(∀j,w.frozen? ⟨b,j,nN⟩=false)/\w.cell? ⟨b,0,nN⟩=nM a/\
  w.cell? ⟨b,1,nN⟩=nM c/\w.cell? ⟨b,2,nN⟩=nM d/\w.cell? ⟨b,3,nN⟩=nM e/\w.cell? ⟨b,4,nN⟩=nM f:=
 ⟨h.lt,fun j=>h.frozen j,h.cell 0,h.cell 1,h.cell 2,h.cell 3,h.cell 4⟩
theorem AK.rowAt{w:Wl}{sv:Vl}{e:Ti}{vs:List Vl}{F:Nat->Prop}(h:AK w sv e vs)(d:∀g,sv.ownBlock=nM g->F g):Ax w F sv vs:=by
 obtain⟨a,b,rfl,f⟩:=h.form;by_cases c:vs=[]
 .subst c;exact .inl ⟨rfl,a,b,rfl⟩
 .obtain⟨g,rfl⟩:=f c
  exact .inr ⟨g,0,b,rfl,d g rfl,fun i v j=>by rw[Nat.zero_add];exact h.cell rfl i v j⟩
theorem Ms(F:Nat->Prop)(T:Ti)(b:Nat)(sv:Vl)(l:List Tr)(vs:List Vl)(w:Wl)(hM:C3 w F T b sv l vs)(G:Nat->Prop)(sk:Vl)(ks:List BY)(hK:Ax w G sk (Ad ks))(hG:∀k,G k->k<w.heap.size)(hr:∀s∈ks,Utf.Al s=true)(m:∀s∈ks,s.size<=2147483648)(f:ks.length<=65536)(a2:ks.Nodup)(b2:(ks.map ByteArray.size).sum<=1099511627776)(hF:EJ l)(hn:ks.length<=l.length)(hl:l.length<=2147483648)(hw:(Ag (D1 ks (l.drop (l.length-ks.length)))).within=true):
  Cl prog 115 #[nP (nM ⟨b,0,nN⟩),sk] w (Yg F T b sv (l.take (l.length-ks.length)++[D1 ks (l.drop (l.length-ks.length))]) w):=by
 obtain⟨a,c,rfl,aW⟩:=hK.cell;have al:(Ad ks).length=ks.length:=by simp[Ad]
 have HK:=hZ hK;have HC:=hZ aW;have HR:=hZ hr;have HS:=hZ m;have HM:=hZ hM;have aO:=hZ a2;have b8:=@run_makeMap prog;have bv:=hZ hw;clear hw;clear hM hK hr m a2 aW;rw[al];go_enter func115,ntmps115
 go_wp2_with fail
 go_loopw [18] (fun i wr=>∃k:Nat,k<=ks.length/\i= nI nX k/\Chg w wr [])
  (fun i _=>ks.length-(intOf i).toNat)
 case atStart=>exact⟨0,Zj,rfl,Chg.refl _ _⟩
 case round=>
  obtain⟨k,b4,rfl,d⟩:=hrel;by_cases aC:k<ks.length
  .have W:(Ad ks)[k]? =nM (nG ks[k]):=by simp[Ad,aC]
   obtain⟨b',o,ax,bz,R⟩:=HC.o k _ W;subst ax;have aA:=d.keeps R;have aG:=HR.o ks[k] (List.getElem_mem aC);have am:=HS.o ks[k] (List.getElem_mem aC);obtain⟨s,m⟩:=Ue (ks[k])
   rw[<-m]at aA aG am;have br:=hZ aG;clear W R aG m
   go_wp2_with(first
    |(go_at_call 101;refine(Dq s _ am).mono ?_;rintro e w2 ⟨rfl,bC⟩;rw[br.o])
    |(go_at_call 106;refine(Au _ _).mono ?_;rintro e w3 ⟨rfl,rfl⟩))
   go_roundw
   case rel=>exact⟨k+1,Zj,by go_num,d.trans bC⟩
   case measure=>simp[intOf];omega
  .have V:k=ks.length:=by omega
   subst V;obtain⟨wa,bT⟩:=Ue wr
   subst bT;go_wp2_with fail
   generalize bd:wa.alloc (.map #[] 0)=w2
   go_loopw [29,7] (fun i y wq=>∃k:Nat,k<=ks.length/\i= nI nX k/\y= nI nX ((ks.take k).map ByteArray.size).sum/\Chg w wq []/\E2 wq wa.heap.size ks k)
    (fun i _ _=>ks.length-(intOf i).toNat)
   case atStart=>exact⟨0,Zj,rfl,Zh,by rw[<-bd];exact d.alloc _,by rw[<-bd];exact E2.made _ _⟩
   case round=>
    obtain⟨k,b5,rfl,rfl,H,x⟩:=hrel;by_cases aD:k<ks.length
    .have W:(Ad ks)[k]? =nM (nG ks[k]):=by simp[Ad,aD]
     obtain⟨b',o,ax,bz,R⟩:=HC.o k _ W;subst ax;have aA:=H.keeps R;have am:=HS.o ks[k] (List.getElem_mem aD);have U:ks[k]? =nM ks[k]:=Q9 aD
     have z:ks[k]∉ks.take k:=by
      intro y;obtain⟨j,hj⟩:=List.mem_iff_getElem?.1 y;rw[List.getElem?_take]at hj;split at hj
      .have:=(List.getElem?_inj (show j<ks.length by omega) aO.o).1 (hj.trans U.symm)
       omega
      .cases hj
     obtain⟨s,m⟩:=Ue (ks[k])
     rw[<-m]at aA am U z;obtain⟨cc,bI⟩:=x.look_ok (s:=s) (by unfold maxLen;omega) false (by simp[z]);have ad:=hZ x;have bj:=hZ U;have bq:=hZ z
     have bt:Hid (((ks.take (k+1)).map ByteArray.size).sum=((ks.take k).map ByteArray.size).sum+s.size):=by
      unfold Hid;rw[List.take_add_one,U];simp
     have HB:((ks.take k).map ByteArray.size).sum<=1099511627776:=by
      have e:(ks.map ByteArray.size).sum=((ks.take k).map ByteArray.size).sum+((ks.drop k).map ByteArray.size).sum:=by
       rw[<-List.sum_append,<-List.map_append,List.take_append_drop]
      omega
     clear W R m x U z;obtain⟨M,ah⟩:=Ue (((ks.take k).map ByteArray.size).sum)
     rw[<-ah]at HB;have bp:=hZ ah;rw[<-ah];clear ah
     go_wp2_with(first
      |(at_mapUpdate;refine CV _ rfl _ _ _ rfl wa.heap.size k ks rfl ad.o s rfl rfl bj.o bq.o (by unfold maxLen;omega) Zj ?_;intro w5 bG bD)
      |(go_at_call 106;refine(Au _ _).mono ?_;rintro e w3 ⟨rfl,rfl⟩))
     go_roundw
     case rel=>exact⟨k+1,Zj,by go_num,by rw[bt.o,<-bp.o];go_num,H.fresh bD (by have:=d.size;simp;omega),bG⟩
     case measure=>simp[intOf];omega
    .have V:k=ks.length:=by omega
     subst V;obtain⟨wb,bU⟩:=Ue wr
     subst bU;have bS:=HM.o.items.length;have C:=hZ (HM.o.kept H);rw[List.take_length];have ad:=hZ x;clear x;have bi:=hZ hF;obtain⟨S,hS⟩:∃S,(Bk (l.drop (vs.length-ks.length))).over (ks.map ByteArray.size).sum=S:=⟨_,rfl⟩
     have aQ:=hZ hS;clear hS;obtain⟨s1,s2,s3⟩:=S
     go_wp2_with(first
      |(go_at_call 112;go_loud(refine(GS F T b sv l vs _ C.o ks.length hn hl).mono ?_;rintro e w5 ⟨Z,rfl,X,bR,N⟩))
      |(go_at_call 114;go_loud(
        refine(Ie (fun k=>F k\/Z.ownBlock=nM k) Z (l.drop (vs.length-ks.length)) (vs.drop (vs.length-ks.length)) _ w5 (X.rowAt fun g d=> .inr d)
         ((C.o.items.kept (N.keepsF C.o.lt) (fun _ h=> .inl h)).drop _) (by
          rintro k (f|f)
          .exact Q6 (C.o.lt k f) N.size
          .exact X.lt f) (bi.o.drop _) (by simp;omega) Zj).mono ?_
        rintro e w6 ⟨rfl,aj⟩;rw[aQ.o];unfold SC))
      |(go_at_call 42;go_loud(
        have aM:=hZ (HK.o.kept ((H.trans (N.trans aj)).keepsF hG) (fun _ h=>h));rw[al]at aM;refine(DL G _ _ w6 aM.o (by intro u hu;simp[Ad]at hu;obtain⟨_,_,rfl⟩:=hu;rfl) (by rw[al];omega)).mono ?_
        rintro e B ⟨v7,rfl,Y,an,aH⟩;obtain⟨n,q,rfl,bB⟩:=Y.form;rw[al]at Y an|-))
      |(go_at_call 156;go_loud(
        refine(J9 ks n q _ HR.o HS.o Zj (Y.kept ((Chg.refl B []).alloc _))).mono ?_;rintro e P ⟨rfl,aU,ak⟩
        have z:B.heap.size∉(Vl.slice n ks.length q).ownBlock.toList:=by
         intro y;have:=Y.lt (g:=B.heap.size) (by simpa using y);omega
        have ap:=hZ ((Ac.new B [nI nX s1,nI nX s2,nI nX s3,nS n ks.length q,nS nN 0 0] 231).kept ak z)
        obtain⟨b0,b1,bV,bW,bX,bY,bZ⟩:=GA ap.o)))
     have bK:=N.size;have bL:=aj.size;have bM:=aH.size;have a7:=ak.size;have b9:=H.size;have b3:=ad.o.lt;simp only[World.size_alloc]at a7;have a4:∀i,i∈(Vl.slice n ks.length q).ownBlock.toList->w6.heap.size<=i:=fun i hi=>an i (by simpa using hi)
     have aJ:=hZ (((aj.trans aH).alloc (nC #[nI nX s1,nI nX s2,nI nX s3,nS n ks.length q,nS nN 0 0] 231)).fresh ak (fun i hi=>by have:=a4 i hi;omega));have ab:=hZ (N.trans aJ.o);have ae:=hZ (X.kept aJ.o);have ar:∀g,Z.ownBlock=nM g->g≠B.heap.size:=fun g d=>by have:=X.lt d;omega
     have bl:=hZ (ad.o.kept ab.o);have bo:=hZ (C.o.kept ab.o);have af:=hZ aU;have aq:=hZ z;have aK:=hZ H;have L:=hZ bS;have bJ:B.heap.size<P.heap.size:=Zj
     have bf:Hid (∀g,(Vl.slice n ks.length q).ownBlock=nM g->wb.heap.size<=g):=fun g d=>by have:=an g d;omega
     have ay:wb.heap.size<=B.heap.size:=Zj
     clear bK bL bM X bR N aj Y an aH ak aU z H a4 b0 b1 bV bW bX bY bZ bB;obtain⟨o,ho⟩:=Ue B.heap.size
     rw[<-ho]at bJ ap ay aq ar|-;have be:=hZ ar;clear ho a7 ar
     go_loopw [72] (fun i wr=>∃k:Nat,∃A,k<=ks.length/\i= nI nX k/\Chg P wr [o]/\Ac wr o [nI nX s1,nI nX s2,nI nX s3,nS n ks.length q,A] 231/\
       AK wr A 62 ((Kv ks (vs.drop (vs.length-ks.length))).take k)/\∀g,A.ownBlock=nM g->P.heap.size<=g)
      (fun i _=>ks.length-(intOf i).toNat)
     case atStart=>exact⟨0,_,Zj,rfl,Chg.refl _ _,ap.o,AK.nil _ _,fun g d=>by cases d⟩
     case round=>
      obtain⟨k,A,b6,rfl,aZ,au,aT,aV⟩:=hrel;obtain⟨lo,fo,p0,p1,p2,p3,p4⟩:=GA au;have v:=hZ aZ;have bg:=hZ au;have aN:=hZ aT;have ag:=hZ aV;clear aZ au aT aV;by_cases aE:k<ks.length
      .have a9:k<(AY ks).length:=by rw[A3];exact aE
       have m:(AY ks)[k]? =nM (AY ks)[k]:=Q9 a9;obtain⟨s,a8⟩:=Ue ((AY ks)[k])
       rw[<-a8]at m;clear a8 a9;have y:s∈ks:=D9.1 (Qi m);have aF:=Gk y;have a6:=Dk y;obtain⟨u,M,bP⟩:=Mw (vs:=vs.drop (vs.length-ks.length)) (by rw[Qm];have:=L.o;omega) m;obtain⟨O,x⟩:=Ue (A5 ks s)
       rw[<-x]at aF a6 M;clear x
       have bQ:∃t,Af P F t u:=by
        have bE:=bo.o.items.drop (vs.length-ks.length);have bF:O<(l.drop (vs.length-ks.length)).length:=by rw[Qm];have:=L.o;omega
        obtain⟨v',c1,c2⟩:=bE.get O _ (Q9 bF)
        rw[M]at c1;injection c1 with c1;subst c1
        exact⟨_,c2⟩
       obtain⟨tu,bb⟩:=bQ;obtain⟨ti,xi,rfl⟩:=bb.iface
       have a1:∃D,n=nM ⟨D,0,nN⟩/\wr.cell? ⟨D,k,nN⟩=nM (nG s):=by
        obtain⟨a',c',Q,aw⟩:=af.o.form
        injection Q with e1 _ e3
        subst e1;obtain⟨D,rfl⟩:=aw (by intro h0;have J:=congrArg List.length h0;unfold Ad at J;rw[List.length_map,A3]at J;rw[J]at aE;simp at aE);have az:P.cell? ⟨D,k,nN⟩=nM (nG s):=af.o.cell rfl k _ (by simp[Ad,m]);refine⟨D,rfl,(v.o.cell (p:=⟨D,k,nN⟩) (af.o.lt rfl) ?_).trans az⟩;have:=aq.o;simp[Vl.ownBlock]at this|-;exact fun e=>this e.symm
       obtain⟨D,rfl,a1⟩:=a1
       have bc:∃r c5,Z= nS (nM ⟨r,0,nN⟩) ks.length c5/\wr.cell? ⟨r,O,nN⟩=nM (nF ti xi):=by
        obtain⟨a',c',Q,aw⟩:=ae.o.form;obtain⟨r,rfl⟩:=aw (by intro h0;rw[h0]at M;simp at M);have bH:(vs.drop (vs.length-ks.length)).length=ks.length:=by rw[Qm];have:=L.o;omega
        rw[bH]at Q;refine⟨r,c',Q, ?_⟩;have h5:Z.ownBlock=nM r:=by rw[Q];rfl
        have az:P.cell? ⟨r,O,nN⟩=nM (nF ti xi):=ae.o.cell h5 O _ M;refine(v.o.cell (p:=⟨r,O,nN⟩) (ae.o.lt h5) ?_).trans az;have:=be.o r h5;simp;exact this
       obtain⟨r,c5,rfl,bc⟩:=bc;have bm:=hZ ((bl.o.kept v.o (by simp;omega)).kept ((Chg.refl wr []).drew));have bN:=HS.o s y;have bI:=bm.o.look (s:=s) (by unfold maxLen;omega) a6 aF
       have ao:Hid (((Kv ks (vs.drop (vs.length-ks.length))).take k).length=k):=by
        unfold Hid;rw[Ql,EP];omega
       have a3:o∉A.ownBlock.toList:=by
        intro hh;have:=ag.o o (by simpa using hh);omega
       have aP:=hZ a3;clear a3 aF M bb y m bN;go_wp2
       go_region_law(first|(refine Df rfl _ _ _ rfl 62 .nilIface 16 underlying127 Ge rfl A ((Kv ks (vs.drop (vs.length-ks.length))).take k) ZN (by exact aN.o.kept (bs:=[]) (by exact cg cR) Zh) wr.heap.size (nF ti xi) ZN (by exact Bx Zh _ _) rfl (by rw[ao.o];omega) (by rw[ao.o];omega) ?_;rw[ao.o];intro g bx w9 bA aR aS;have aa:=hZ ((bg.o.alloc (nC #[nF ti xi] 62)).drew.kept aR aP.o);have c9:w9.cell? ⟨o,4,nN⟩=nM A:=aa.o.cell 4;have f9:∀j,w9.frozen? ⟨o,j,nN⟩=false:=(fun j=>aa.o.frozen j);have ca:=aa.o.lt))
       all_goals
        go_wp2
        go_roundw
        case rel=>
         have G3:=v.o;have bO:=v.o.size;refine⟨k+1,nS (nM ⟨g,0,nN⟩) (k+1) bx,Zj,by go_num,(Chg.own (sv:= nS nN 0 0) (by exact cg G3) aR (fun g d=>by cases d) (fun g d=> .inr (ag.o g d))).setCell _ _ Zh,aa.o.set 4 _, ?_, ?_⟩
         .rw[List.take_add_one,bP]
          exact bA.kept (bs:=[o]) ((Chg.refl _ _).setCell _ _ Zh) (by
           intro g' S;simp[Vl.ownBlock]at S;subst S
           rcases aS with h|h
           .intro E;simp at E;subst E;exact aP.o (by simp[h])
           .simp at h;intro E;simp at E;omega)
         .intro g' S
          simp[Vl.ownBlock]at S;subst S
          rcases aS with h|h
          .exact ag.o _ h
          .simp at h;omega
        case measure=>simp[intOf];omega
      .have V:k=ks.length:=by omega
       subst V;have aB:(l.drop (vs.length-ks.length)).length=ks.length:=by rw[Qm];have:=L.o;omega
       have aY:(vs.drop (vs.length-ks.length)).length=ks.length:=by rw[Qm];have:=L.o;omega
       have aI:l.drop (l.length-ks.length)=l.drop (vs.length-ks.length):=by rw[L.o]
       have ba:Ag (D1 ks (l.drop (vs.length-ks.length)))=⟨s1,s2,s3⟩:=(Kd aO.o aB.symm).trans aQ.o;have bO:=v.o.size;have ai:Chg wb wr []:=ab.o.fresh v.o (by simp;exact ay);have aX:Chg w wr []:=aK.o.trans ai;obtain⟨I,K⟩:∃I:Nat->Prop,I=fun k=>F k\/(wb.heap.size<=k/\k<wr.heap.size):=⟨_,rfl⟩
       have av:C3 wr I T b sv l vs:=by
        subst K;refine C.o.grown ai (fun k f=> .inl f) (fun k f=>f.imp_right And.left) (fun k f=> ?_)
        rcases f with f|f
        .have:=C.o.lt k f;have:=ai.size;omega
        .exact f.2
       have a0:Af wr I (D1 ks (l.drop (vs.length-ks.length))) (nF 137 (nP (nM ⟨o,0,nN⟩))):=by
        have h7:AK wr (nS n ks.length q) 9 (Ad (AY ks)):=af.o.kept v.o (by
         intro g d E;simp at E;subst E
         exact aq.o (by simp[d]))
        unfold D1;simp only[Af];have e:=ba;unfold D1 at e;rw[e];refine⟨o,nS n ks.length q,A,Kv ks (vs.drop (vs.length-ks.length)),rfl,by subst K;exact .inr ⟨ay,lo⟩,by rw[A3,DD],p0,p1,p2,p3,h7.rowAt ?_,p4, ?_, ?_⟩
        .intro g d
         subst K;have J:=bf.o g d;have h2:=h7.lt d;exact .inr ⟨J,h2⟩
        .have:=aN.o
         rw[Qn (by rw[EP];omega)]at this;refine this.rowAt fun g d=> ?_
         subst K;have J:=ag.o g d;have h2:=this.lt d;have h3:=ab.o.size;exact .inr ⟨Zj,h2⟩
        .exact Mx (by rw[aB]) (av.items.drop _)
       have bn:=hZ av;have bk:=hZ a0;have bh:=hZ aX
       have bw:Hid ((Ag (D1 ks (l.drop (vs.length-ks.length)))).within=true):=by
        have:=bv.o;rwa[aI]at this
       have aL:=hZ K;have bu:=hZ aI;obtain⟨a5,c5,e5,_⟩:=ae.o.form;rw[aY]at e5;subst e5;clear aB aY aI ba ai av a0 aX K
       go_wp2_with(first
        |(go_at_call 113;go_loud(refine(I0 I T _ _ b sv l vs ks.length _ bn.o bk.o bw.o hn hl).mono ?_;rintro e w9 ⟨rfl,hP⟩)))
       go_end0
       rw[bu.o];refine⟨rfl,I,fun k f=>by rw[aL.o];exact .inl f,fun k f b7=> ?_,hP.after bh.o⟩;rw[aL.o]at f
       rcases f with f|f
       .exact f
       .have:=aK.o.size;omega
def PT(w:Wl)(e:Ending)(w':Wl):Prop:=(∃n:Int,e= .panicked [{v:= nF 50 (nI nX n),recovered:=false}])/\Chg w w' []
theorem JR(F:Nat->Prop)(T:Ti)(b:Nat)(sv:Vl)(l:List Tr)(vs:List Vl)(w:Wl)(u:C3 w F T b sv l vs)(G:Nat->Prop)(sk:Vl)(ks:List BY)(m:Ax w G sk (Ad ks))(S:∀k,G k->k<w.heap.size)(A:¬∀s∈ks,Utf.Al s=true)(d:∀s∈ks,s.size<=2147483648)(V:ks.length<=2147483648):
  Cl prog 115 #[nP (nM ⟨b,0,nN⟩),sk] w (PT w):=by
 obtain⟨a,c,rfl,v⟩:=m.cell;have N:(Ad ks).length=ks.length:=by simp[Ad]
 have P:=hZ m;have D:=hZ v;have J:=hZ d;have Q:=hZ u;have I:=hZ A;clear A;clear u m d v;rw[N];go_enter func115,ntmps115
 go_wp2_with fail
 go_loopw [18] (fun i wr=>∃k:Nat,k<=ks.length/\i= nI nX k/\Chg w wr []/\∀s∈ks.take k,Utf.Al s=true)
  (fun i _=>ks.length-(intOf i).toNat)
 case atStart=>exact⟨0,Zj,rfl,Chg.refl _ _,fun s h=>by simp at h⟩
 case round=>
  obtain⟨k,W,rfl,n,g⟩:=hrel;by_cases r:k<ks.length
  .have z:(Ad ks)[k]? =nM (nG ks[k]):=by simp[Ad,r]
   obtain⟨R,o,K,U,y⟩:=D.o k _ z;subst K;have L:=n.keeps y;have t:=J.o ks[k] (List.getElem_mem r);have q:ks[k]? =nM ks[k]:=Q9 r;obtain⟨s,d⟩:=Ue (ks[k])
   rw[<-d]at L t q;have H:=hZ g;have E:=hZ q;clear z y d g q;by_cases j:Utf.Al s=true
   .have f:=hZ j
    clear j
    go_wp2_with(first
     |(go_at_call 101;refine(Dq s _ t).mono ?_;rintro e w2 ⟨rfl,p⟩;rw[f.o])
     |(go_at_call 106;refine(Au _ _).mono ?_;rintro e O ⟨rfl,rfl⟩))
    go_roundw
    case rel=>exact⟨k+1,Zj,by go_num,n.trans p,fun x C=>by
     rw[List.take_add_one,E.o]at C
     rcases Qf.1 C with h|h
     .exact H.o x h
     .simp at h;subst h;exact f.o⟩
    case measure=>simp[intOf];omega
   .have B:Utf.Al s=false:=by simpa using j
    have f:=hZ B;clear j B
    go_wp2_with(first
     |(go_at_call 101;refine(Dq s _ t).mono ?_;rintro e w2 ⟨rfl,p⟩;rw[f.o])
     |(go_at_call 106;refine(CD _ _).mono ?_;rintro e O ⟨rfl,rfl⟩))
    exact⟨rfl,⟨100,rfl⟩,n.trans p⟩
  .exfalso
   have M:k=ks.length:=Zj
   subst M;rw[List.take_length]at g;exact I.o g
theorem JQ(F:Nat->Prop)(T:Ti)(b:Nat)(sv:Vl)(l:List Tr)(vs:List Vl)(w:Wl)(J:C3 w F T b sv l vs)(G:Nat->Prop)(sk:Vl)(ks:List BY)(t:Ax w G sk (Ad ks))(hG:∀k,G k->k<w.heap.size)(N:∀s∈ks,Utf.Al s=true)(d:∀s∈ks,s.size<=2147483648)(hk:ks.length<=2147483648)(M:¬ks.Nodup)(ai:(ks.map ByteArray.size).sum<=1099511627776):
  Cl prog 115 #[nP (nM ⟨b,0,nN⟩),sk] w (PT w):=by
 obtain⟨a,c,rfl,L⟩:=t.cell;have af:(Ad ks).length=ks.length:=by simp[Ad]
 have HK:=hZ t;have D:=hZ L;have I:=hZ d;have X:=hZ N;have HM:=hZ J;have al:=@run_makeMap prog;have V:=hZ M;clear N M;clear J t d L;rw[af];go_enter func115,ntmps115
 go_wp2_with fail
 go_loopw [18] (fun i wr=>∃k:Nat,k<=ks.length/\i= nI nX k/\Chg w wr [])
  (fun i _=>ks.length-(intOf i).toNat)
 case atStart=>exact⟨0,Zj,rfl,Chg.refl _ _⟩
 case round=>
  obtain⟨k,aj,rfl,n⟩:=hrel;by_cases z:k<ks.length
  .have h:(Ad ks)[k]? =nM (nG ks[k]):=by simp[Ad,z]
   obtain⟨b',o,u,aa,f⟩:=D.o k _ h;subst u;have v:=n.keeps f;have B:=X.o ks[k] (List.getElem_mem z);have r:=I.o ks[k] (List.getElem_mem z);obtain⟨s,d⟩:=Ue (ks[k])
   rw[<-d]at v B r;have Y:=hZ B;clear h f B d
   go_wp2_with(first
    |(go_at_call 101;refine(Dq s _ r).mono ?_;rintro e w2 ⟨rfl,ab⟩;rw[Y.o])
    |(go_at_call 106;refine(Au _ _).mono ?_;rintro e P ⟨rfl,rfl⟩))
   go_roundw
   case rel=>exact⟨k+1,Zj,by go_num,n.trans ab⟩
   case measure=>simp[intOf];omega
  .have y:k=ks.length:=by omega
   subst y;obtain⟨C,ah⟩:=Ue wr
   subst ah;go_wp2_with fail
   generalize O:C.alloc (.map #[] 0)=w2
   go_loopw [29,7] (fun i y Q=>∃k:Nat,k<=ks.length/\i= nI nX k/\y= nI nX ((ks.take k).map ByteArray.size).sum/\Chg w Q []/\E2 Q C.heap.size ks k/\(ks.take k).Nodup)
    (fun i _ _=>ks.length-(intOf i).toNat)
   case atStart=>exact⟨0,Zj,rfl,Zh,by rw[<-O];exact n.alloc _,by rw[<-O];exact E2.made _ _,List.nodup_nil⟩
   case round=>
    obtain⟨k,ak,rfl,rfl,x,g,q⟩:=hrel;by_cases A:k<ks.length
    .have h:(Ad ks)[k]? =nM (nG ks[k]):=by simp[Ad,A]
     obtain⟨b',o,u,aa,f⟩:=D.o k _ h;subst u;have v:=x.keeps f;have r:=I.o ks[k] (List.getElem_mem A);have p:ks[k]? =nM ks[k]:=Q9 A;obtain⟨s,d⟩:=Ue (ks[k])
     rw[<-d]at v r p;have W:=hZ q;have S:=hZ g;have E:=hZ p
     have Z:Hid (((ks.take (k+1)).map ByteArray.size).sum=((ks.take k).map ByteArray.size).sum+s.size):=by
      unfold Hid;rw[List.take_add_one,p];simp
     have R:((ks.take k).map ByteArray.size).sum<=1099511627776:=by
      have e:(ks.map ByteArray.size).sum=((ks.take k).map ByteArray.size).sum+((ks.drop k).map ByteArray.size).sum:=by
       rw[<-List.sum_append,<-List.map_append,List.take_append_drop]
      omega
     obtain⟨M,m⟩:=Ue (((ks.take k).map ByteArray.size).sum)
     rw[<-m]at R;have U:=hZ m;rw[<-m];clear m q p h f d;by_cases j:s∈ks.take k
     .obtain⟨cc,ag⟩:=g.look_ok (s:=s) (by unfold maxLen;omega) true (by simp[j])
      clear g j
      go_wp2_with(first
       |(go_at_call 106;refine(CD _ _).mono ?_;rintro e P ⟨rfl,rfl⟩))
      exact⟨rfl,⟨101,rfl⟩,x⟩
     .obtain⟨cc,ag⟩:=g.look_ok (s:=s) (by unfold maxLen;omega) false (by simp[j])
      have H:=hZ j;clear g j
      go_wp2_with(first
       |(at_mapUpdate;refine CV _ rfl _ _ _ rfl C.heap.size k ks rfl S.o s rfl rfl E.o H.o (by unfold maxLen;omega) Zj ?_;intro w5 ae ad)
       |(go_at_call 106;refine(Au _ _).mono ?_;rintro e P ⟨rfl,rfl⟩))
      go_roundw
      case rel=>exact⟨k+1,Zj,by go_num,by rw[Z.o,<-U.o];go_num,x.fresh ad (by have:=n.size;simp;omega),ae,by
       rw[List.take_add_one,E.o];simp only[Option.toList_some]
       exact List.nodup_append.2 ⟨W.o,Zh,fun a ha b K e=>by simp at K;subst K;subst e;exact H.o ha⟩⟩
      case measure=>simp[intOf];omega
    .exfalso
     have y:k=ks.length:=Zj
     subst y;rw[List.take_length]at q;exact V.o q
theorem Ly(F:Nat->Prop)(T:Ti)(b:Nat)(sv:Vl)(l:List Tr)(vs:List Vl)(w:Wl)(J:C3 w F T b sv l vs)(G:Nat->Prop)(sk:Vl)(ks:List BY)(v:Ax w G sk (Ad ks))(hG:∀k,G k->k<w.heap.size)(M:∀s∈ks,Utf.Al s=true)(d:∀s∈ks,s.size<=2147483648)(hk:ks.length<=2147483648)(L:ks.Nodup)(ae:(ks.map ByteArray.size).sum<=1099511627776)(hn:l.length<ks.length):
  Cl prog 115 #[nP (nM ⟨b,0,nN⟩),sk] w (PT w):=by
 obtain⟨a,c,rfl,K⟩:=v.cell;have ah:(Ad ks).length=ks.length:=by simp[Ad]
 have HK:=hZ v;have H:=hZ K;have I:=hZ d;have Z:=hZ M;have U:=hZ J;have an:=@run_makeMap prog;have X:=hZ L;clear M L;clear J v d K;rw[ah];go_enter func115,ntmps115
 go_wp2_with fail
 go_loopw [18] (fun i wr=>∃k:Nat,k<=ks.length/\i= nI nX k/\Chg w wr [])
  (fun i _=>ks.length-(intOf i).toNat)
 case atStart=>exact⟨0,Zj,rfl,Chg.refl _ _⟩
 case round=>
  obtain⟨k,ak,rfl,p⟩:=hrel;by_cases B:k<ks.length
  .have m:(Ad ks)[k]? =nM (nG ks[k]):=by simp[Ad,B]
   obtain⟨b',o,x,ad,f⟩:=H.o k _ m;subst x;have y:=p.keeps f;have D:=Z.o ks[k] (List.getElem_mem B);have u:=I.o ks[k] (List.getElem_mem B);obtain⟨s,d⟩:=Ue (ks[k])
   rw[<-d]at y D u;have aa:=hZ D;clear m f D d
   go_wp2_with(first
    |(go_at_call 101;refine(Dq s _ u).mono ?_;rintro e w2 ⟨rfl,af⟩;rw[aa.o])
    |(go_at_call 106;refine(Au _ _).mono ?_;rintro e w3 ⟨rfl,rfl⟩))
   go_roundw
   case rel=>exact⟨k+1,Zj,by go_num,p.trans af⟩
   case measure=>simp[intOf];omega
  .have A:k=ks.length:=by omega
   subst A;obtain⟨E,ai⟩:=Ue wr
   subst ai;go_wp2_with fail
   generalize N:E.alloc (.map #[] 0)=w2
   go_loopw [29,7] (fun i y O=>∃k:Nat,k<=ks.length/\i= nI nX k/\y= nI nX ((ks.take k).map ByteArray.size).sum/\Chg w O []/\E2 O E.heap.size ks k)
    (fun i _ _=>ks.length-(intOf i).toNat)
   case atStart=>exact⟨0,Zj,rfl,Zh,by rw[<-N];exact p.alloc _,by rw[<-N];exact E2.made _ _⟩
   case round=>
    obtain⟨k,al,rfl,rfl,h,q⟩:=hrel;by_cases C:k<ks.length
    .have m:(Ad ks)[k]? =nM (nG ks[k]):=by simp[Ad,C]
     obtain⟨b',o,x,ad,f⟩:=H.o k _ m;subst x;have y:=h.keeps f;have u:=I.o ks[k] (List.getElem_mem C);have g:ks[k]? =nM ks[k]:=Q9 C
     have t:ks[k]∉ks.take k:=by
      intro hm;obtain⟨j,r⟩:=List.mem_iff_getElem?.1 hm;rw[List.getElem?_take]at r;split at r
      .have:=(List.getElem?_inj (show j<ks.length by omega) X.o).1 (r.trans g.symm)
       omega
      .cases r
     obtain⟨s,d⟩:=Ue (ks[k])
     rw[<-d]at y u g t;obtain⟨cc,am⟩:=q.look_ok (s:=s) (by unfold maxLen;omega) false (by simp[t]);have S:=hZ q;have Q:=hZ g;have Y:=hZ t
     have ab:Hid (((ks.take (k+1)).map ByteArray.size).sum=((ks.take k).map ByteArray.size).sum+s.size):=by
      unfold Hid;rw[List.take_add_one,g];simp
     have P:((ks.take k).map ByteArray.size).sum<=1099511627776:=by
      have e:(ks.map ByteArray.size).sum=((ks.take k).map ByteArray.size).sum+((ks.drop k).map ByteArray.size).sum:=by
       rw[<-List.sum_append,<-List.map_append,List.take_append_drop]
      omega
     clear m f d q g t;obtain⟨M,n⟩:=Ue (((ks.take k).map ByteArray.size).sum)
     rw[<-n]at P;have W:=hZ n;rw[<-n];clear n
     go_wp2_with(first
      |(at_mapUpdate;refine CV _ rfl _ _ _ rfl E.heap.size k ks rfl S.o s rfl rfl Q.o Y.o (by unfold maxLen;omega) Zj ?_;intro w5 ag z)
      |(go_at_call 106;refine(Au _ _).mono ?_;rintro e w3 ⟨rfl,rfl⟩))
     go_roundw
     case rel=>exact⟨k+1,Zj,by go_num,by rw[ab.o,<-W.o];go_num,h.fresh z (by have:=p.size;simp;omega),ag⟩
     case measure=>simp[intOf];omega
    .have A:k=ks.length:=by omega
     subst A;have V:=hZ (U.o.kept h);have R:=hZ h;rw[List.take_length]
     have aj:(ks.map ByteArray.size).sum<=1099511627776:=ae;clear q h
     go_wp2_with(first
      |(go_at_call 112;go_loud(refine(JS F T b sv l vs _ V.o ks.length Zj).mono ?_;rintro e w5 ⟨rfl,z⟩)))
     exact⟨rfl,⟨102,rfl⟩,R.o.trans z⟩
theorem Ks(F:Nat->Prop)(T:Ti)(b:Nat)(sv:Vl)(l:List Tr)(vs:List Vl)(w:Wl)(hM:C3 w F T b sv l vs)(G:Nat->Prop)(sk:Vl)(ks:List BY)(hK:Ax w G sk (Ad ks))(hG:∀k,G k->k<w.heap.size)(hr:∀s∈ks,Utf.Al s=true)(m:∀s∈ks,s.size<=2147483648)(f:ks.length<=65536)(a0:ks.Nodup)(b3:(ks.map ByteArray.size).sum<=1099511627776)(hF:EJ l)(hn:ks.length<=l.length)(hl:l.length<=2147483648)(hw:(Ag (D1 ks (l.drop (l.length-ks.length)))).within=false):
  Cl prog 115 #[nP (nM ⟨b,0,nN⟩),sk] w (PT w):=by
 obtain⟨a,c,rfl,aU⟩:=hK.cell;have al:(Ad ks).length=ks.length:=by simp[Ad]
 have HK:=hZ hK;have HC:=hZ aU;have HR:=hZ hr;have HS:=hZ m;have HM:=hZ hM;have aM:=hZ a0;have b8:=@run_makeMap prog;have br:=hZ hw;clear hw;clear hM hK hr m a0 aU;rw[al];go_enter func115,ntmps115
 go_wp2_with fail
 go_loopw [18] (fun i wr=>∃k:Nat,k<=ks.length/\i= nI nX k/\Chg w wr [])
  (fun i _=>ks.length-(intOf i).toNat)
 case atStart=>exact⟨0,Zj,rfl,Chg.refl _ _⟩
 case round=>
  obtain⟨k,b5,rfl,d⟩:=hrel;by_cases aC:k<ks.length
  .have W:(Ad ks)[k]? =nM (nG ks[k]):=by simp[Ad,aC]
   obtain⟨b',o,ax,bv,R⟩:=HC.o k _ W;subst ax;have aA:=d.keeps R;have aG:=HR.o ks[k] (List.getElem_mem aC);have am:=HS.o ks[k] (List.getElem_mem aC);obtain⟨s,m⟩:=Ue (ks[k])
   rw[<-m]at aA aG am;have bp:=hZ aG;clear W R aG m
   go_wp2_with(first
    |(go_at_call 101;refine(Dq s _ am).mono ?_;rintro e w2 ⟨rfl,bz⟩;rw[bp.o])
    |(go_at_call 106;refine(Au _ _).mono ?_;rintro e w3 ⟨rfl,rfl⟩))
   go_roundw
   case rel=>exact⟨k+1,Zj,by go_num,d.trans bz⟩
   case measure=>simp[intOf];omega
  .have V:k=ks.length:=by omega
   subst V;obtain⟨wa,bR⟩:=Ue wr
   subst bR;go_wp2_with fail
   generalize bb:wa.alloc (.map #[] 0)=w2
   go_loopw [29,7] (fun i y wq=>∃k:Nat,k<=ks.length/\i= nI nX k/\y= nI nX ((ks.take k).map ByteArray.size).sum/\Chg w wq []/\E2 wq wa.heap.size ks k)
    (fun i _ _=>ks.length-(intOf i).toNat)
   case atStart=>exact⟨0,Zj,rfl,Zh,by rw[<-bb];exact d.alloc _,by rw[<-bb];exact E2.made _ _⟩
   case round=>
    obtain⟨k,b6,rfl,rfl,H,x⟩:=hrel;by_cases aD:k<ks.length
    .have W:(Ad ks)[k]? =nM (nG ks[k]):=by simp[Ad,aD]
     obtain⟨b',o,ax,bv,R⟩:=HC.o k _ W;subst ax;have aA:=H.keeps R;have am:=HS.o ks[k] (List.getElem_mem aD);have U:ks[k]? =nM ks[k]:=Q9 aD
     have z:ks[k]∉ks.take k:=by
      intro y;obtain⟨j,hj⟩:=List.mem_iff_getElem?.1 y;rw[List.getElem?_take]at hj;split at hj
      .have:=(List.getElem?_inj (show j<ks.length by omega) aM.o).1 (hj.trans U.symm)
       omega
      .cases hj
     obtain⟨s,m⟩:=Ue (ks[k])
     rw[<-m]at aA am U z;obtain⟨cc,bG⟩:=x.look_ok (s:=s) (by unfold maxLen;omega) false (by simp[z]);have ad:=hZ x;have bi:=hZ U;have bo:=hZ z
     have bq:Hid (((ks.take (k+1)).map ByteArray.size).sum=((ks.take k).map ByteArray.size).sum+s.size):=by
      unfold Hid;rw[List.take_add_one,U];simp
     have HB:((ks.take k).map ByteArray.size).sum<=1099511627776:=by
      have e:(ks.map ByteArray.size).sum=((ks.take k).map ByteArray.size).sum+((ks.drop k).map ByteArray.size).sum:=by
       rw[<-List.sum_append,<-List.map_append,List.take_append_drop]
      omega
     clear W R m x U z;obtain⟨M,ah⟩:=Ue (((ks.take k).map ByteArray.size).sum)
     rw[<-ah]at HB;have bn:=hZ ah;rw[<-ah];clear ah
     go_wp2_with(first
      |(at_mapUpdate;refine CV _ rfl _ _ _ rfl wa.heap.size k ks rfl ad.o s rfl rfl bi.o bo.o (by unfold maxLen;omega) Zj ?_;intro w5 bE bA)
      |(go_at_call 106;refine(Au _ _).mono ?_;rintro e w3 ⟨rfl,rfl⟩))
     go_roundw
     case rel=>exact⟨k+1,Zj,by go_num,by rw[bq.o,<-bn.o];go_num,H.fresh bA (by have:=d.size;simp;omega),bE⟩
     case measure=>simp[intOf];omega
    .have V:k=ks.length:=by omega
     subst V;obtain⟨wb,bS⟩:=Ue wr
     subst bS;have bQ:=HM.o.items.length;have C:=hZ (HM.o.kept H);rw[List.take_length];have ad:=hZ x;clear x;have bh:=hZ hF;obtain⟨S,hS⟩:∃S,(Bk (l.drop (vs.length-ks.length))).over (ks.map ByteArray.size).sum=S:=⟨_,rfl⟩
     have aO:=hZ hS;clear hS;obtain⟨s1,s2,s3⟩:=S
     go_wp2_with(first
      |(go_at_call 112;go_loud(refine(GS F T b sv l vs _ C.o ks.length hn hl).mono ?_;rintro e w5 ⟨Z,rfl,X,bP,M⟩))
      |(go_at_call 114;go_loud(
        refine(Ie (fun k=>F k\/Z.ownBlock=nM k) Z (l.drop (vs.length-ks.length)) (vs.drop (vs.length-ks.length)) _ w5 (X.rowAt fun g d=> .inr d)
         ((C.o.items.kept (M.keepsF C.o.lt) (fun _ h=> .inl h)).drop _) (by
          rintro k (f|f)
          .exact Q6 (C.o.lt k f) M.size
          .exact X.lt f) (bh.o.drop _) (by simp;omega) Zj).mono ?_
        rintro e w6 ⟨rfl,aj⟩;rw[aO.o];unfold SC))
      |(go_at_call 42;go_loud(
        have aK:=hZ (HK.o.kept ((H.trans (M.trans aj)).keepsF hG) (fun _ h=>h));rw[al]at aK;refine(DL G _ _ w6 aK.o (by intro u hu;simp[Ad]at hu;obtain⟨_,_,rfl⟩:=hu;rfl) (by rw[al];omega)).mono ?_
        rintro e B ⟨v7,rfl,Y,an,aH⟩;obtain⟨n,q,rfl,bx⟩:=Y.form;rw[al]at Y an|-))
      |(go_at_call 156;go_loud(
        refine(J9 ks n q _ HR.o HS.o Zj (Y.kept ((Chg.refl B []).alloc _))).mono ?_;rintro e O ⟨rfl,aS,ak⟩
        have z:B.heap.size∉(Vl.slice n ks.length q).ownBlock.toList:=by
         intro y;have:=Y.lt (g:=B.heap.size) (by simpa using y);omega
        have ap:=hZ ((Ac.new B [nI nX s1,nI nX s2,nI nX s3,nS n ks.length q,nS nN 0 0] 231).kept ak z)
        obtain⟨bY,bZ,bT,bU,bV,bW,bX⟩:=GA ap.o)))
     have bI:=M.size;have bJ:=aj.size;have bK:=aH.size;have a4:=ak.size;have b9:=H.size;have b4:=ad.o.lt;simp only[World.size_alloc]at a4;have a2:∀i,i∈(Vl.slice n ks.length q).ownBlock.toList->w6.heap.size<=i:=fun i hi=>an i (by simpa using hi)
     have aJ:=hZ (((aj.trans aH).alloc (nC #[nI nX s1,nI nX s2,nI nX s3,nS n ks.length q,nS nN 0 0] 231)).fresh ak (fun i hi=>by have:=a2 i hi;omega));have ab:=hZ (M.trans aJ.o);have ae:=hZ (X.kept aJ.o);have ar:∀g,Z.ownBlock=nM g->g≠B.heap.size:=fun g d=>by have:=X.lt d;omega
     have bk:=hZ (ad.o.kept ab.o);have bm:=hZ (C.o.kept ab.o);have af:=hZ aS;have aq:=hZ z;have bg:=hZ H;have K:=hZ bQ;have bH:B.heap.size<O.heap.size:=Zj
     have bd:Hid (∀g,(Vl.slice n ks.length q).ownBlock=nM g->wb.heap.size<=g):=fun g d=>by have:=an g d;omega
     have ay:wb.heap.size<=B.heap.size:=Zj
     clear bI bJ bK X bP M aj Y an aH ak aS z H a2 bY bZ bT bU bV bW bX bx;obtain⟨o,ho⟩:=Ue B.heap.size
     rw[<-ho]at bH ap ay aq ar|-;have bc:=hZ ar;clear ho a4 ar
     go_loopw [72] (fun i wr=>∃k:Nat,∃A,k<=ks.length/\i= nI nX k/\Chg O wr [o]/\Ac wr o [nI nX s1,nI nX s2,nI nX s3,nS n ks.length q,A] 231/\
       AK wr A 62 ((Kv ks (vs.drop (vs.length-ks.length))).take k)/\∀g,A.ownBlock=nM g->O.heap.size<=g)
      (fun i _=>ks.length-(intOf i).toNat)
     case atStart=>exact⟨0,_,Zj,rfl,Chg.refl _ _,ap.o,AK.nil _ _,fun g d=>by cases d⟩
     case round=>
      obtain⟨k,A,b7,rfl,aX,au,aR,aT⟩:=hrel;obtain⟨lo,fo,p0,p1,p2,p3,p4⟩:=GA au;have v:=hZ aX;have be:=hZ au;have aL:=hZ aR;have ag:=hZ aT;clear aX au aR aT;by_cases aE:k<ks.length
      .have a7:k<(AY ks).length:=by rw[A3];exact aE
       have m:(AY ks)[k]? =nM (AY ks)[k]:=Q9 a7;obtain⟨s,a6⟩:=Ue ((AY ks)[k])
       rw[<-a6]at m;clear a6 a7;have y:s∈ks:=D9.1 (Qi m);have aF:=Gk y;have a3:=Dk y;obtain⟨u,L,bN⟩:=Mw (vs:=vs.drop (vs.length-ks.length)) (by rw[Qm];have:=K.o;omega) m;obtain⟨N,x⟩:=Ue (A5 ks s)
       rw[<-x]at aF a3 L;clear x
       have bO:∃t,Af O F t u:=by
        have bC:=bm.o.items.drop (vs.length-ks.length);have bD:N<(l.drop (vs.length-ks.length)).length:=by rw[Qm];have:=K.o;omega
        obtain⟨v',c1,c2⟩:=bC.get N _ (Q9 bD)
        rw[L]at c1;injection c1 with c1;subst c1
        exact⟨_,c2⟩
       obtain⟨tu,a9⟩:=bO;obtain⟨ti,xi,rfl⟩:=a9.iface
       have aZ:∃D,n=nM ⟨D,0,nN⟩/\wr.cell? ⟨D,k,nN⟩=nM (nG s):=by
        obtain⟨a',c',Q,aw⟩:=af.o.form
        injection Q with e1 _ e3
        subst e1;obtain⟨D,rfl⟩:=aw (by intro h0;have I:=congrArg List.length h0;unfold Ad at I;rw[List.length_map,A3]at I;rw[I]at aE;simp at aE);have az:O.cell? ⟨D,k,nN⟩=nM (nG s):=af.o.cell rfl k _ (by simp[Ad,m]);refine⟨D,rfl,(v.o.cell (p:=⟨D,k,nN⟩) (af.o.lt rfl) ?_).trans az⟩;have:=aq.o;simp[Vl.ownBlock]at this|-;exact fun e=>this e.symm
       obtain⟨D,rfl,aZ⟩:=aZ
       have ba:∃r c5,Z= nS (nM ⟨r,0,nN⟩) ks.length c5/\wr.cell? ⟨r,N,nN⟩=nM (nF ti xi):=by
        obtain⟨a',c',Q,aw⟩:=ae.o.form;obtain⟨r,rfl⟩:=aw (by intro h0;rw[h0]at L;simp at L);have bF:(vs.drop (vs.length-ks.length)).length=ks.length:=by rw[Qm];have:=K.o;omega
        rw[bF]at Q;refine⟨r,c',Q, ?_⟩;have h5:Z.ownBlock=nM r:=by rw[Q];rfl
        have az:O.cell? ⟨r,N,nN⟩=nM (nF ti xi):=ae.o.cell h5 N _ L;refine(v.o.cell (p:=⟨r,N,nN⟩) (ae.o.lt h5) ?_).trans az;have:=bc.o r h5;simp;exact this
       obtain⟨r,c5,rfl,ba⟩:=ba;have bl:=hZ ((bk.o.kept v.o (by simp;omega)).kept ((Chg.refl wr []).drew));have bL:=HS.o s y;have bG:=bl.o.look (s:=s) (by unfold maxLen;omega) a3 aF
       have ao:Hid (((Kv ks (vs.drop (vs.length-ks.length))).take k).length=k):=by
        unfold Hid;rw[Ql,EP];omega
       have a1:o∉A.ownBlock.toList:=by
        intro hh;have:=ag.o o (by simpa using hh);omega
       have aN:=hZ a1;clear a1 aF L a9 y m bL;go_wp2
       go_region_law(first|(refine Df rfl _ _ _ rfl 62 .nilIface 16 underlying127 Ge rfl A ((Kv ks (vs.drop (vs.length-ks.length))).take k) ZN (by exact aL.o.kept (bs:=[]) (by exact cg cR) Zh) wr.heap.size (nF ti xi) ZN (by exact Bx Zh _ _) rfl (by rw[ao.o];omega) (by rw[ao.o];omega) ?_;rw[ao.o];intro g bu w9 bw aP aQ;have aa:=hZ ((be.o.alloc (nC #[nF ti xi] 62)).drew.kept aP aN.o);have c9:w9.cell? ⟨o,4,nN⟩=nM A:=aa.o.cell 4;have f9:∀j,w9.frozen? ⟨o,j,nN⟩=false:=(fun j=>aa.o.frozen j);have ca:=aa.o.lt))
       all_goals
        go_wp2
        go_roundw
        case rel=>
         have G3:=v.o;have bM:=v.o.size;refine⟨k+1,nS (nM ⟨g,0,nN⟩) (k+1) bu,Zj,by go_num,(Chg.own (sv:= nS nN 0 0) (by exact cg G3) aP (fun g d=>by cases d) (fun g d=> .inr (ag.o g d))).setCell _ _ Zh,aa.o.set 4 _, ?_, ?_⟩
         .rw[List.take_add_one,bN]
          exact bw.kept (bs:=[o]) ((Chg.refl _ _).setCell _ _ Zh) (by
           intro g' S;simp[Vl.ownBlock]at S;subst S
           rcases aQ with h|h
           .intro E;simp at E;subst E;exact aN.o (by simp[h])
           .simp at h;intro E;simp at E;omega)
         .intro g' S
          simp[Vl.ownBlock]at S;subst S
          rcases aQ with h|h
          .exact ag.o _ h
          .simp at h;omega
        case measure=>simp[intOf];omega
      .have V:k=ks.length:=by omega
       subst V;have aB:(l.drop (vs.length-ks.length)).length=ks.length:=by rw[Qm];have:=K.o;omega
       have aW:(vs.drop (vs.length-ks.length)).length=ks.length:=by rw[Qm];have:=K.o;omega
       have aI:l.drop (l.length-ks.length)=l.drop (vs.length-ks.length):=by rw[K.o]
       have a8:Ag (D1 ks (l.drop (vs.length-ks.length)))=⟨s1,s2,s3⟩:=(Kd aM.o aB.symm).trans aO.o;have bM:=v.o.size;have ai:Chg wb wr []:=ab.o.fresh v.o (by simp;exact ay);have aV:Chg w wr []:=bg.o.trans ai;obtain⟨P,J⟩:∃P:Nat->Prop,P=fun k=>F k\/(wb.heap.size<=k/\k<wr.heap.size):=⟨_,rfl⟩
       have av:C3 wr P T b sv l vs:=by
        subst J;refine C.o.grown ai (fun k f=> .inl f) (fun k f=>f.imp_right And.left) (fun k f=> ?_)
        rcases f with f|f
        .have:=C.o.lt k f;have:=ai.size;omega
        .exact f.2
       have aY:Af wr P (D1 ks (l.drop (vs.length-ks.length))) (nF 137 (nP (nM ⟨o,0,nN⟩))):=by
        have h7:AK wr (nS n ks.length q) 9 (Ad (AY ks)):=af.o.kept v.o (by
         intro g d E;simp at E;subst E
         exact aq.o (by simp[d]))
        unfold D1;simp only[Af];have e:=a8;unfold D1 at e;rw[e];refine⟨o,nS n ks.length q,A,Kv ks (vs.drop (vs.length-ks.length)),rfl,by subst J;exact .inr ⟨ay,lo⟩,by rw[A3,DD],p0,p1,p2,p3,h7.rowAt ?_,p4, ?_, ?_⟩
        .intro g d
         subst J;have I:=bd.o g d;have h2:=h7.lt d;exact .inr ⟨I,h2⟩
        .have:=aL.o
         rw[Qn (by rw[EP];omega)]at this;refine this.rowAt fun g d=> ?_
         subst J;have I:=ag.o g d;have h2:=this.lt d;have h3:=ab.o.size;exact .inr ⟨Zj,h2⟩
        .exact Mx (by rw[aB]) (av.items.drop _)
       have b1:=hZ av;have bj:=hZ aY;have bf:=hZ aV
       have bt:Hid ((Ag (D1 ks (l.drop (vs.length-ks.length)))).within=false):=by
        have:=br.o;rwa[aI]at this
       have b0:=hZ J;have b2:=hZ aI;obtain⟨a5,c5,e5,_⟩:=ae.o.form;rw[aW]at e5;subst e5;clear aB aW aI a8 ai av aY aV J
       go_wp2_with(first
        |(go_at_call 113;go_loud(refine(IZ P _ _ b ks.length _ bj.o bt.o).mono ?_;rintro e w9 ⟨rfl,bB⟩)))
       exact⟨rfl,⟨3,rfl⟩,bf.o.trans bB⟩
def Cx(F:Nat->Prop)(T:Ti)(b:Nat)(sv:Vl)(l:List Tr)(w:Wl)(e:Ending)(w':Wl):Prop:=
 e= nR .nilIface/\∃a c d,(∀k,F k->a k)/\(∀k,a k->k<w.heap.size->F k)/\C3 w' a T b c l d/\Chg w w' (b::sv.ownBlock.toList)/\∀g,c.ownBlock=nM g->sv.ownBlock=nM g\/w.heap.size<=g
def Fc(w:Wl)(e:Ending)(w':Wl):Prop:=(∃n:Int,e= nR (nF 50 (nI nX n)))/\Chg w w' []
theorem C3.set{w:Wl}{F:Nat->Prop}{T:Ti}{b:Nat}{sv:Vl}{l:List Tr}{vs:List Vl}(h:C3 w F T b sv l vs)(p:Addr)(v:Vl)(e:p.block≠b)(m:∀g,sv.ownBlock=nM g->g≠p.block)(d:¬F p.block):
  C3 (w.setCell p v) F T b sv l vs:=by
 have c:Chg w (w.setCell p v) [p.block]:=(Chg.refl _ _).setCell _ _ Zh
 exact⟨h.blk.set_other _ _ e,h.lst.kept c fun g i j=>m g i (by simpa using j),Ak.kept (c.keepsF h.lt fun k a f=>d (by simp at a;subst a;exact f)) (fun _ h=>h) l vs h.items,h.apart,h.apart',
  fun k a=>Q6 (h.lt k a) c.size⟩
theorem DA{F a:Nat->Prop}{T:Ti}{b:Nat}{sv:Vl}{l:List Tr}{w d w2:Wl}(c:Chg w d [])(f:FZ a T b sv l d w2)(j:∀k,F k->a k)(m:∀k,a k->k<w.heap.size->F k)(s:b<w.heap.size)(o:∀g,sv.ownBlock=nM g->g<w.heap.size)(k:Nat)(t:w.heap.size<=k)(u:k<d.heap.size)(p:¬a k)(v:Vl):Cx F T b sv l w (nR .nilIface) (w2.setCell ⟨k,0,nN⟩ v):=by
 obtain⟨q,r,n,i,e⟩:=f;refine⟨rfl,a,q,r,j,m,n.set _ _ (by simp;omega) (fun g h=> ?_) p,((c.none _).trans i).setCell _ _ (by simp;omega),fun g h=>(e g h).imp id fun h=>Q7 c.size h⟩;have:=c.size
 rcases e g h with h|h
 .have:=o g h;simp;omega
 .simp;omega
theorem FZ.chg{F:Nat->Prop}{T:Ti}{b:Nat}{sv:Vl}{l:List Tr}{w w':Wl}(h:FZ F T b sv l w w'):Chg w w' (b::sv.ownBlock.toList):=by
 obtain⟨_,_,_,h,_⟩:=h;exact h
theorem Lv(F:Nat->Prop)(T:Ti)(b:Nat)(sv:Vl)(l:List Tr)(vs:List Vl)(s:BY)(z:Vl)(w:Wl)(k:C3 w F T b sv l vs)(N:∃a c,z= nS a 0 c)(v:Utf.Al s=true)(y:(Ag (.text s)).within=true)(O:l.length<=2147483648)(P:s.size<=2147483648):
  Cl prog 61 #[nP (nM ⟨b,0,nN⟩),DY 4 false 0 s 0 z] w (Cx F T b sv (l++[.text s]) w):=by
 obtain⟨a,c,rfl⟩:=N;have aa:∀(t:Fn) (first r:Array Vl) (w:Wl),(Instr.makeFunc t first r).run prog w= .ok (.func t first r) w:=fun _ _ _ _=>rfl
 have x:Bs 4 false 0 s 0 0=true:=by unfold Bs;simp
 have d:=hZ k;have E:=hZ x;have B:=hZ v;have G:=hZ y;have C:=hZ ((Ac.new w [nI nX 4,.bool false,nI .u64 0,nG s,nI nX 0,nS a 0 c] 72).alloc (nC #[.nilIface] 35));have A:=hZ (CH w (nC [nI nX 4,.bool false,nI .u64 0,nG s,nI nX 0,nS a 0 c].toArray 72) [.nilIface] 35);have K:=k.blk.lt;clear k x v y;go_enter_defers func61,ntmps61
 unfold DY
 go_wp2_with(first
  |(go_at_call 107;refine(Ck 4 false 0 s 0 a 0 c _).mono ?_;rintro e w1 ⟨rfl,i⟩;rw[E.o];have q:=hZ (C.o.kept i);have m:=hZ (A.o.kept i);obtain⟨ai,aj,ab,ad,ae,af,ag,ah⟩:=Ac.cells6 q.o;obtain⟨S,U,R⟩:=Ac.cells1 m.o)
  |(go_at_call 106;refine(Au _ _).mono ?_;rintro e w3 ⟨rfl,rfl⟩)
  |(go_at_call 101;refine(Dq s _ P).mono ?_;rintro e w2 ⟨rfl,j⟩;rw[B.o];have D:=hZ (q.o.kept j);have n:=hZ (m.o.kept j);obtain⟨aq,ar,ak,al,am,an,ao,ap⟩:=Ac.cells6 D.o;obtain⟨H,W,V⟩:=Ac.cells1 n.o)
  |(go_at_call 108;go_loud(have J:=hZ (d.o.kept ((((Chg.refl w []).alloc _).alloc _).trans (i.trans j)));refine(EO F T (.text s) _ b sv l vs _ J.o (by simp only[Af]) G.o O).mono ?_;rintro e Q ⟨rfl,u⟩;have p:=hZ u;clear u;have o:=hZ (n.o.kept p.o.chg (d.o.newNotIn (w.heap.size+1) Zj));obtain⟨Y,Z,X⟩:=Ac.cells1 o.o)))
 refine leaves_cons (f:=105) (args:=#[nP (nM ⟨w.heap.size+1,0,nN⟩)]) Zh (by simp[go_sem]) ?_;refine(DZ ⟨w.heap.size+1,0,nN⟩ _).mono ?_;rintro e u' au ⟨rfl,rfl,rfl⟩;have I:(Q.setCell ⟨w.heap.size+1,0,nN⟩ .nilIface).cell? ⟨w.heap.size+1,0,nN⟩=nM .nilIface:=(o.o.set 0 _).cell 0;simp[Leaves,settle,results,results61,go_sem,I];exact DA ((((Chg.refl w []).alloc _).alloc _).trans (i.trans j)) p.o (fun _ h=>h) (fun _ h _=>h) K (fun g M=>d.o.lst.lt M) _ Zj H (fun L=>by have:=d.o.lt _ L;omega) _
def Cg(n:Nat):Nat:=if Fl.A7 n=0 then 0 else n
theorem Mm(F:Nat->Prop)(T:Ti)(b:Nat)(sv:Vl)(l:List Tr)(vs:List Vl)(n:Nat)(S:Vl)(w:Wl)(x:C3 w F T b sv l vs)(Z:∃j k,S= nS j 0 k)(P:n<18446744073709551616)(a:Fl.Fh n=true)(O:l.length<=2147483648):
  Cl prog 61 #[nP (nM ⟨b,0,nN⟩),DY 3 false n ⟨#[]⟩ 0 S] w (Cx F T b sv (l++[.num (Cg n)]) w):=by
 obtain⟨j,k,rfl⟩:=Z;have am:∀(K:Fn) (first J:Array Vl) (w:Wl),(Instr.makeFunc K first J).run prog w= .ok (.func K first J) w:=fun _ _ _ _=>rfl
 have al:=GW;have Q:Bs 3 false n ⟨#[]⟩ 0 0=true:=by unfold Bs;simp
 have L:decide (9218868437227405312<Fl.A7 n)=false:=by unfold Fl.Fh at a;simp at a;simp;omega
 have M:decide (Fl.A7 n=9218868437227405312)=false:=by unfold Fl.Fh at a;simp at a;simp;omega
 have R:(Ag (.num (Cg n))).within=true:=rfl;have d:=hZ x;have H:=hZ Q;have B:=hZ L;have C:=hZ M;have E:=hZ P;have I:=hZ R;have G:=hZ ((Ac.new w [nI nX 3,.bool false,nI .u64 n,nG ⟨#[]⟩,nI nX 0,nS j 0 k] 72).alloc (nC #[.nilIface] 35));have D:=hZ (CH w (nC [nI nX 3,.bool false,nI .u64 n,nG ⟨#[]⟩,nI nX 0,nS j 0 k].toArray 72) [.nilIface] 35);have N:=x.blk.lt;clear x Q R L M P a;by_cases i:Fl.A7 n=0
 .have aa:(FloatKind.f64.format.order n 0==nM .eq)=true:=by rw[show FloatKind.f64.format=Ieee.double from rfl,Fl.Mb];simpa using i
  have t:Hid (Cg n=0):=by unfold Hid Cg;rw[Qr i]
  clear i;go_enter_defers func61,ntmps61
  unfold DY
  go_wp2_with(first
   |(go_at_call 107;refine(Ck 3 false n ⟨#[]⟩ 0 j 0 k _).mono ?_;rintro e w1 ⟨rfl,c⟩;rw[H.o];have s:=hZ (G.o.kept c);have m:=hZ (D.o.kept c);obtain⟨ai,aj,ab,ad,ae,af,ag,ah⟩:=Ac.cells6 s.o;obtain⟨u,V,U⟩:=Ac.cells1 m.o)
   |(go_at_call 106;refine(Au _ _).mono ?_;rintro e r ⟨rfl,rfl⟩)
   |(go_at_call 110;refine(FO n _).mono ?_;rintro e r ⟨rfl,rfl⟩;rw[B.o])
   |(go_at_call 111;refine(bJ n E.o _).mono ?_;rintro e r ⟨rfl,rfl⟩;rw[C.o])
   |(go_at_call 108;have y:=hZ (d.o.kept ((((Chg.refl w []).alloc _).alloc _).trans c));refine(EO F T (.num (Cg n)) _ b sv l vs _ y.o (by simp only[Af];rw[t.o]) I.o O).mono ?_;rintro e A ⟨rfl,q⟩;have p:=hZ q;clear q;have o:=hZ (m.o.kept p.o.chg (d.o.newNotIn (w.heap.size+1) Zj));obtain⟨X,Y,W⟩:=Ac.cells1 o.o))
  refine leaves_cons (f:=105) (args:=#[nP (nM ⟨w.heap.size+1,0,nN⟩)]) Zh (by simp[go_sem]) ?_;refine(DZ ⟨w.heap.size+1,0,nN⟩ _).mono ?_;rintro e u' ak ⟨rfl,rfl,rfl⟩;have v:(A.setCell ⟨w.heap.size+1,0,nN⟩ .nilIface).cell? ⟨w.heap.size+1,0,nN⟩=nM .nilIface:=(o.o.set 0 _).cell 0;simp[Leaves,settle,results,results61,go_sem,v];exact DA ((((Chg.refl w []).alloc _).alloc _).trans c) p.o (fun _ h=>h) (fun _ h _=>h) N (fun g z=>d.o.lst.lt z) _ Zj u (fun a=>by have:=d.o.lt _ a;omega) _
 .have aa:(FloatKind.f64.format.order n 0==nM .eq)=false:=by rw[show FloatKind.f64.format=Ieee.double from rfl,Fl.Mb];simpa using i
  have t:Hid (Cg n=n):=by unfold Hid Cg;rw[Qs i]
  clear i;go_enter_defers func61,ntmps61
  unfold DY
  go_wp2_with(first
   |(go_at_call 107;refine(Ck 3 false n ⟨#[]⟩ 0 j 0 k _).mono ?_;rintro e w1 ⟨rfl,c⟩;rw[H.o];have s:=hZ (G.o.kept c);have m:=hZ (D.o.kept c);obtain⟨ai,aj,ab,ad,ae,af,ag,ah⟩:=Ac.cells6 s.o;obtain⟨u,V,U⟩:=Ac.cells1 m.o)
   |(go_at_call 106;refine(Au _ _).mono ?_;rintro e r ⟨rfl,rfl⟩)
   |(go_at_call 110;refine(FO n _).mono ?_;rintro e r ⟨rfl,rfl⟩;rw[B.o])
   |(go_at_call 111;refine(bJ n E.o _).mono ?_;rintro e r ⟨rfl,rfl⟩;rw[C.o])
   |(go_at_call 108;have y:=hZ (d.o.kept ((((Chg.refl w []).alloc _).alloc _).trans c));refine(EO F T (.num (Cg n)) _ b sv l vs _ y.o (by simp only[Af];rw[t.o]) I.o O).mono ?_;rintro e A ⟨rfl,q⟩;have p:=hZ q;clear q;have o:=hZ (m.o.kept p.o.chg (d.o.newNotIn (w.heap.size+1) Zj));obtain⟨X,Y,W⟩:=Ac.cells1 o.o))
  refine leaves_cons (f:=105) (args:=#[nP (nM ⟨w.heap.size+1,0,nN⟩)]) Zh (by simp[go_sem]) ?_;refine(DZ ⟨w.heap.size+1,0,nN⟩ _).mono ?_;rintro e u' ak ⟨rfl,rfl,rfl⟩;have v:(A.setCell ⟨w.heap.size+1,0,nN⟩ .nilIface).cell? ⟨w.heap.size+1,0,nN⟩=nM .nilIface:=(o.o.set 0 _).cell 0;simp[Leaves,settle,results,results61,go_sem,v];exact DA ((((Chg.refl w []).alloc _).alloc _).trans c) p.o (fun _ h=>h) (fun _ h _=>h) N (fun g z=>d.o.lst.lt z) _ Zj u (fun a=>by have:=d.o.lt _ a;omega) _
end
section
open Go Go.RowKit Tree
def Hs(b:Nat):Prop:=b<18446744073709551616/\Fl.Fh b=true/\Cg b=b
end
end Go.Proofs.YtkfnkppdhcaeoaaGreatDoor

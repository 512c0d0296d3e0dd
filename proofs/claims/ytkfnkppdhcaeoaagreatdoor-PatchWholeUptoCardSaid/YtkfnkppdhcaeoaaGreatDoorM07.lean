/- Part 7 of the proof of patchJoined_card. -/
import Derived.Lib.AppendIntMem
import Derived.Lib.OwnBridge
import Derived.Maps.OwnOps
import Derived.Maps.OwnSet
import Derived.Maps.Views
import Derived.StringKeys
import Derived.Test.YtkfnkppdhcaeoaaGreatDoorM06
set_option maxRecDepth 100000
set_option maxHeartbeats 32000000
set_option linter.unusedSimpArgs false
set_option linter.unusedVariables false
set_option linter.unnecessarySimpa false
namespace Go.Proofs.YtkfnkppdhcaeoaaGreatDoor
open Go renaming Calls->Cl,Value->Vl,World->Wl
section
open _root_.Go.Proofs.Tryz
open Go Go.Shelf Go.RowKit Go.Lib Go.Sort Tree
def RT:Type:={s:BY//Utf.Al s=true/\s.size<=2147483648}
instance:Inhabited RT:=⟨⟨ByteArray.empty,by decide,by decide⟩⟩
def QH(x:RT):Vl:= .string x.1
def Wm(x y:RT):Int:=Utf.BK x.1 y.1
theorem ai(x y:RT):ltOf Wm x y=decide (Utf.BK x.1 y.1<0):=rfl
theorem aE:SWO (ltOf Wm) where
 irrefl x:=by simp[ai,Utf.Gc]
 trans x y z h1 h2:=by
  simp only[ai,decide_eq_true_eq]at*;exact Utf.Ev h1 h2
 ntrans x y z h1 h2:=by
  simp only[ai,decide_eq_false_iff_not]at*;intro d;have g:=Utf.Ej x.1 y.1;have h:=Utf.Ej y.1 z.1;have i:=Utf.Ej x.1 z.1;by_cases e:Utf.BK x.1 y.1=0
  .have:=Utf.FJ e;rw[this]at d;exact h2 d
  .by_cases f:Utf.BK y.1 z.1=0
   .have:=Utf.FJ f;rw[<-this]at d;exact h1 d
   .have:=Utf.Ev (a:=z.1) (b:=y.1) (c:=x.1) (by omega) (by omega)
    omega
theorem aF(x y:RT)(a:ltOf Wm x y=false)(b:ltOf Wm y x=false):x=y:=by
 simp only[ai,decide_eq_false_iff_not]at*;have c:=Utf.Ej x.1 y.1;exact Subtype.ext (Utf.FJ (by omega))
theorem AB.grew{w w':Wl}(h:AB w w' []):∃q os,w'=grow (w.drewN q) os:=by
 refine⟨w'.drawn-w.drawn,w'.heap.extract w.heap.size w'.heap.size, ?_⟩
 have d:w'.heap=w.heap++w'.heap.extract w.heap.size w'.heap.size:=by
  apply Array.ext_getElem?;intro i;by_cases hi:i<w.heap.size
  .rw[Array.getElem?_append_left hi]
   exact h.block i hi (by simp)
  .rw[Array.getElem?_append_right (by omega),Array.getElem?_extract]
   have:=h.size;by_cases a:i<w'.heap.size
   .rw[Qr (by omega)]
    congr 1
    omega
   .rw[Qs (by omega),Array.getElem?_eq_none (by omega)]
 have f:=h.drawn;have b:=h.os;have a:=h.tape;have c:=h.output
 cases w with
 |mk heap m drawn os k=>
  cases w' with
  |mk g n e j l=>
   simp only at*;subst b;subst a;subst c;unfold grow World.drewN;simp only;rw[<-d]
   congr 1
   omega
theorem XO(a c size:Nat)(w:Wl):CmpLays1 prog 157 #[] QH Wm a c size w:=by
 intro m os d _ x y;refine(I6 x.1 y.1 _ x.2.2 y.2.2 x.2.1 y.2.1).mono ?_;rintro e w' ⟨rfl,b⟩;exact⟨rfl,b.grew⟩
theorem VI(g b:Nat)(ks:List RT)(w:Wl)(u:ks.length<=4294967296)(l:AK w (.slice (some ⟨g,0,none⟩) ks.length b) 9 (ks.map QH)):
  Cl prog 156 #[.slice (some ⟨g,0,none⟩) ks.length b,.func (.func 157) #[] #[]] w fun e w'=>
   e= .returned (.tuple #[])/\AK w' (.slice (some ⟨g,0,none⟩) ks.length b) 9 ((ks.mergeSort fun x y=> !(ltOf Wm) y x).map QH)/\Chg w w' [g]:=by
 have h:∀args w,(callFunc 157 args).run prog w= .ok (.enter 157 args) w:=enters_of func157 (by kernel_rfl) rfl
 have c:=l;unfold AK at c;rw[List.length_map]at c;obtain⟨t,s,a,_,o,_,_,_,j⟩:=holds_of_ownsRow c (by simp)
 injection a with a _ m
 injection a with a
 injection a with a
 subst a;subst m;have d:=Any.slices_SortFunc_total bB QH (fun _=>rfl) Wm aE 157 #[] g 0 b ks.toArray w h (XO g 0 _ w) j o (by simp;omega) aF;rw[List.size_toArray]at d;change Cl prog 156 _ _ _ at d;refine d.mono ?_;rintro e w' ⟨rfl,n,os,rfl⟩;refine⟨rfl, ?_, ?_⟩
 .have i:=ownsRow_putRow (q:=n) (k:=ks.length) (ys:=ks.mergeSort fun x y=> !(ltOf Wm) y x) c (by simp) (Q8 _)
  have f:=ownsRow_grow i 0 os;unfold AK sortWorld;rw[List.length_map,List.length_mergeSort];rw[Qn (by simp)]at f;exact f
 .refine⟨rfl,rfl,rfl,by simp[sortWorld,putRow,mapBlock,Sort.ahead],fun k p r=> ?_⟩
  unfold sortWorld;rw[show(grow (putRow QH (Sort.ahead w n) g 0 (ks.mergeSort fun x y=> !(ltOf Wm) y x).toArray) os).heap[k]? =(putRow QH (Sort.ahead w n) g 0 (ks.mergeSort fun x y=> !(ltOf Wm) y x).toArray).heap[k]? from Array.getElem?_append_left (by simpa[putRow,mapBlock,Sort.ahead]using p)];have:g≠k:=fun e=>r (by simp[e])
  simp[putRow,mapBlock,Sort.ahead,Array.getElem?_modify,this]
def V0(x:RT):BY:=x.1
theorem OH(l:List RT):Ad (l.map V0)=l.map QH:=by unfold Ad QH V0;rw[List.map_map];rfl
theorem NZ:∀(ks:List BY),(∀s∈ks,Utf.Al s=true)->(∀s∈ks,s.size<=2147483648)->∃l:List RT,l.map V0=ks
 |[],_,_=>⟨[],rfl⟩
 |s::ks,c,d=>by
  obtain⟨l,e⟩:=NZ ks (fun t b=>c t (by simp[b])) (fun t b=>d t (by simp[b]))
  let x:RT:=⟨s,c s (by simp),d s (by simp)⟩
  exact⟨x::l,(List.map_cons (f:=V0) (a:=x) (l:=l)).trans (by rw[e];rfl)⟩
theorem XN(l:List RT):(l.mergeSort fun x y=> !(ltOf Wm) y x).map V0=AY (l.map V0):=by
 unfold AY;rw[List.map_mergeSort];intro a _ b _;rfl
def Wg(ks:List BY)(a:Option Addr)(b:Nat)(w:Wl)(e:Ending)(w':Wl):Prop:=
 e= .returned (.tuple #[])/\AK w' (.slice a ks.length b) 9 (Ad (AY ks))/\Chg w w' (Vl.slice a ks.length b).ownBlock.toList
theorem J9(ks:List BY)(a:Option Addr)(b:Nat)(w:Wl)(o:∀s∈ks,Utf.Al s=true)(p:∀s∈ks,s.size<=2147483648)(f:ks.length<=4294967296)(c:AK w (.slice a ks.length b) 9 (Ad ks)):
  Cl prog 156 #[.slice a ks.length b,.func (.func 157) #[] #[]] w (Wg ks a b w):=by
 by_cases d:ks=[]
 .subst d
  have:=AnyF.slices_SortFunc_none bA a b (.func (.func 157) #[] #[]) w;change Cl prog 156 _ _ _ at this;refine this.mono ?_;rintro e w' ⟨rfl,rfl⟩;exact⟨rfl,by simpa[AY]using c,Chg.refl _ _⟩
 .obtain⟨l,rfl⟩:=NZ ks o p
  obtain⟨q,r,h,n⟩:=c.form
  injection h with i _ j
  subst i;subst j;obtain⟨g,rfl⟩:=n (by simpa[Ad]using d);rw[List.length_map]at f c|-;refine(VI g b l w f (by rw[<-OH];exact c)).mono ?_;rintro e w' ⟨rfl,k,m⟩;refine⟨rfl, ?_,by simpa[Vl.ownBlock]using m⟩;rw[<-XN,List.length_map];rw[OH];exact k
end
section
open _root_.Go.Proofs.Tryz
open Go Go.RowKit
theorem Lp(p:Addr)(x:Vl)(n:Int)(w:Wl)(d:w.cell? p=some x)(g:w.frozen? p=false):
  CallsD prog 105 #[.pointer (some p)] (.panicking [{v:= .iface 50 (.int .i64 n),recovered:=false}]) w fun e b w'=>
   e= .returned (.tuple #[])/\b= .panicking [{v:= .iface 50 (.int .i64 n),recovered:=true}]/\w'=w.setCell p (.iface 50 (.int .i64 n)):=by
 have f:∀(k:Int) (w:Wl),(Instr.typeAssert (.iface 50 (.int .i64 k)) 20 50 false).run prog w= .ok (.int .i64 k) w:=fun _ _=>by kernel_rfl
 refine callsD_of_wpS func105 rfl fun c cs a=> ?_
 apply wpS_seq;apply wpS_region;simp[wpOpsS,go_sem,recoverD,a,ntmps105,Exit.thenS];refine wpS_of_wp ?_;simp[Array.replicate];go_wp2
 simp_all[bodyPostS,results,results105]
theorem DZ(p:Addr)(w:Wl):
  CallsD prog 105 #[.pointer (some p)] .returning w fun e c w'=>e= .returned (.tuple #[])/\c= .returning/\w'=w:=by
 refine callsD_of_wpS func105 rfl fun a cs b=> ?_
 apply wpS_seq;apply wpS_region;simp[wpOpsS,go_sem,recoverD,b,ntmps105,Exit.thenS];refine wpS_of_wp ?_;simp[Array.replicate];go_wp2
 cases a
 simp_all[bodyPostS,results,results105]
theorem OX(B:Nat)(x:Vl)(n:Int)(w:Wl)(a:Ac w B [x] 50):
  CallsD prog 87 #[.pointer (some ⟨B,0,none⟩)] (.panicking [{v:=KN n,recovered:=false}]) w fun e d w'=>
   e= .returned (.tuple #[])/\d= .panicking [{v:=KN n,recovered:=true}]/\Ac w' B [.int .i64 n] 50/\Chg w w' [B]:=by
 have h:∀(k:Int) (w:Wl),(Instr.typeAssert (.iface 174 (.agg #[.int .i64 k])) 20 174 true).run prog w= .ok (.tuple #[.agg #[.int .i64 k],.bool true]) w:=fun _ _=>by kernel_rfl
 have b:=a.cell 0;simp only[Qa]at b;have i:=a.frozen 0;have g:=a.lt;refine callsD_of_wpS func87 rfl fun f cs c=> ?_
 apply wpS_seq;apply wpS_region;simp[wpOpsS,go_sem,recoverD,c,ntmps87,Exit.thenS];unfold KN;refine wpS_of_wp ?_;simp[Array.replicate];go_wp2
 simp only[bodyPostS,results,results87];refine⟨trivial,_,rfl,.tuple #[],by simp[go_sem],rfl,rfl, ?_, ?_⟩
 .exact(a.set 0 (.int .i64 n)).alloc _
 .exact((Chg.refl w [B]).setCell _ _ (fun _=>by simp)).alloc _
theorem Qu(p:Addr)(w:Wl):
  CallsD prog 87 #[.pointer (some p)] .returning w fun e c w'=>e= .returned (.tuple #[])/\c= .returning/\w'=w:=by
 refine callsD_of_wpS func87 rfl fun a cs b=> ?_
 apply wpS_seq;apply wpS_region;simp[wpOpsS,go_sem,recoverD,b,ntmps87,Exit.thenS];refine wpS_of_wp ?_;simp[Array.replicate];go_wp2
 cases a
 simp_all[bodyPostS,results,results87]
def GB(R:Wl->Ending->Wl->Prop)(c:List Nat)(w:Wl)(e:Ending)(w':Wl):Prop:=
 ∃(a b:Wl) (B:Nat),Chg w a []/\w.heap.size<=B/\B<a.heap.size/\Chg b w' [B]/\Chg a b c/\((R a (.returned (.tuple #[])) b/\e= .returned (.int .i64 0))\/(∃k:Int,R a (By k) b/\e= .returned (.int .i64 k)))
theorem Qt(R:Wl->Ending->Wl->Prop)(g:List Nat)(w d b:Wl)(a:Act)(n:Int)(B:Nat)(o:a.defers=[{target:= .fn (.func 87) #[.pointer (some ⟨B,0,none⟩)],args:=#[]}])(j:a.tmps.getD 2 undef= .pointer (some ⟨B,0,none⟩))(l:Ac b B [.int .i64 0] 50)(h:Chg w d [])(q:w.heap.size<=B)(p:B<d.heap.size)(i:Chg d b g)(m:R d (By n) b):
  bodyPostD prog f49 (GB R g w) (.panic [{v:=KN n,recovered:=false}]) a b:=by
 show Leaves _ _ a.tmps _ a.defers (.panicking _) b
 rw[o];refine leaves_cons (f:=87) (args:=#[.pointer (some ⟨B,0,none⟩)]) (by simp) (by simp[go_sem]) ?_;refine(OX B (.int .i64 0) n b l).mono ?_;rintro e t u ⟨rfl,rfl,r,s⟩;have c:=r.cell 0;simp only[Qa]at c;refine⟨.int .i64 n, ?_,d,b,B,h,q,p,s,i,.inr ⟨n,m,rfl⟩⟩;have k:a.tmps[2]?.getD undef= .pointer (some ⟨B,0,none⟩):=by simpa using j
 simp[results,results49,go_sem,k,c]
theorem Xp(n:Nat)(i:Array Vl)(d:List Nat)(w:Wl)(R:Wl->Ending->Wl->Prop)(u:∀b,b∈d->b<w.heap.size)(D:∀w,(callFunc n i).run prog w= .ok (.enter n i) w)(s:∀c,Chg w c []->Cl prog n i c (R c))(r:∀c e a,R c e a->Chg c a d/\(e= .returned (.tuple #[])\/∃k:Int,e=By k)):
  Cl prog 49 #[.func (.func n) #[] i] w (GB R d w):=by
 have G:∀(q:Fn) (first p:Array Vl) (w:Wl),(Instr.makeFunc q first p).run prog w= .ok (.func q first p) w:=fun _ _ _ _=>rfl
 have x:=hZ s;have z:=hZ r;have v:Hid (Ac (w.alloc (.cells #[.int .i64 0] 50)) w.heap.size [.int .i64 0] 50):=hZ (Ac.new w [.int .i64 0] _);have y:Hid (w.heap.size∉d):=hZ (fun h=>Nat.lt_irrefl _ (u _ h));clear s r u;go_enter_defers func49,ntmps49
 go_wp2_with((refine(x.o _ (by exact cg cR)).mono ?_;intro e a l;obtain⟨j,B⟩:=z.o _ _ _ l;have o:=hZ l;have m:=hZ j;have g:=hZ (v.o.kept j y.o);have H:=g.o.lt;obtain⟨F,E,C⟩:=g.o.cells1;clear l j;rcases B with rfl|⟨k,t⟩;rotate_left;(unfold By at t;subst t)))
 .exact Qt R d w _ a _ _ w.heap.size rfl rfl g.o ((Chg.refl w []).alloc _) (Q8 _) (by simp) m.o o.o
 .refine leaves_cons (f:=87) (args:=#[.pointer (some ⟨w.heap.size,0,none⟩)]) (by simp) (by simp[go_sem]) ?_
  refine(Qu ⟨w.heap.size,0,none⟩ _).mono ?_;rintro e I J ⟨rfl,rfl,rfl⟩;have A:(a.setCell ⟨w.heap.size,0,none⟩ (.int .i64 0)).cell? ⟨w.heap.size,0,none⟩=some (.int .i64 0):=(g.o.set 0 _).cell 0;simp[Leaves,settle,results,results49,go_sem,A];exact⟨_,a,w.heap.size,(Chg.refl w []).alloc _,Q8 _,by simp,(Chg.refl a _).setCell _ _ (by simp),m.o,.inl ⟨o.o,rfl⟩⟩
end
section
open _root_.Go.Proofs.Tryz
open Go Go.RowKit Go.Maps Go.WideMaps
def Ra(s:BY):Lit:= .string s.data.toList
theorem Rb{s t:BY}(h:Ra s=Ra t):s=t:=by
 unfold Ra at h
 injection h with h
 cases s with|mk a=>cases t with|mk b=>cases a;cases b;simp_all
def E2(w:Wl)(m:Nat)(ks:List BY)(k:Nat):Prop:=
 ∃D:DataW Nat,w.ownsMap prog 9 (plainElem prog 3) m k D/\IsMap D/\(∀s,Maps.has D (Ra s)=true↔s∈ks.take k)/\
  ∀j s,j<k->ks[j]? =some s->D.atKey (Ra s) (.lit (.int .i64 0))= .lit (.int .i64 j)
theorem MZ:Maps.Keyed prog 9:=string_keyed underlying9
theorem Pg{s:BY}(a:s.size<=maxLen):keyOf prog 9 (.string s)=some (Ra s):=keyOf_string_mk underlying9 a
theorem E2.made(w:Wl)(ks:List BY):E2 (w.alloc (.map #[] 0)) w.heap.size ks 0:=
 ⟨.map [],World.ownsMap_made _ _ _ _,Maps.isMap_empty,fun s=>by simp[Maps.has_eq],fun j s h=>by omega⟩
theorem E2.lt{w:Wl}{m:Nat}{ks:List BY}{k:Nat}(h:E2 w m ks k):m<w.heap.size:=by
 obtain⟨D,h,_⟩:=h;exact h.lt
theorem E2.kept{w w':Wl}{m:Nat}{ks:List BY}{k:Nat}{bs:List Nat}(h:E2 w m ks k)(f:Chg w w' bs)(g:m∉bs:=by simp):E2 w' m ks k:=by
 obtain⟨D,⟨c,b,a,d⟩,e⟩:=h;exact⟨D,⟨c,b,(f.block m (Array.getElem?_eq_some_iff.1 a).1 g).trans a,d⟩,e⟩
theorem E2.store{w:Wl}{m:Nat}{ks:List BY}{k:Nat}{s:BY}(h:E2 w m ks k)(f:ks[k]? =some s)(q:s∉ks.take k)(x:s.size<=maxLen)(z:k<=4294967296):
  ∃w',(Instr.mapUpdate 269 (.map (some m)) (.string s) (.int .i64 k)).run prog w= .ok () w'/\E2 w' m ks (k+1)/\Chg w w' [m]:=by
 obtain⟨D,n,d,o,p⟩:=h;obtain⟨w',v,l,c⟩:=n.update MZ underlying269 (by unfold maxLen;omega) (Pg x) (plainElem_int (H:=Nat) underlying3 (a:=(k:Int)) (WalkArith.wf_i64 (by omega)));have g:WideAt.IsKeyLit (Ra s):=trivial;refine⟨w',v,⟨_,l,d.put _ _,fun t=> ?_,fun j t y b=> ?_⟩,⟨c.os,c.tape,c.output,c.size,fun i hi u=>c.block i hi fun e=>u (by simpa using e)⟩⟩
 .rw[List.take_add_one,f]
  by_cases e:t=s
  .subst e
   simp[Maps.has_put_same d g]
  .rw[Maps.has_put_other (fun h=>e (Rb h))]
   rw[o];simp[e]
 .by_cases e:t=s
  .subst e
   have:j=k:=by
    by_cases r:j=k
    .exact r
    .exact absurd (List.mem_iff_getElem?.2 ⟨j,by rw[List.getElem?_take];simp[show j<k by omega,b]⟩) q
   subst this;exact Maps.atKey_put_same d g _ _
  .rw[Maps.atKey_put_other (fun h=>e (Rb h))]
   refine p j t ?_ b
   have:j≠k:=by rintro rfl;rw[f]at b;injection b with b;exact e b.symm
   omega
theorem UC(w:Wl):(zeroValue 3).run prog w= .ok (.int .i64 0) w:=by kernel_rfl
theorem E2.look_ok{w:Wl}{m:Nat}{ks:List BY}{k:Nat}(h:E2 w m ks k){s:BY}(g:s.size<=maxLen)(b:Bool)(e:b=true↔s∈ks.take k):
  ∃c:Int,(Instr.lookup 269 (.map (some m)) (.string s) true).run prog w= .ok (.tuple #[.int .i64 c,.bool b]) w:=by
 obtain⟨D,a,j,d,l⟩:=h;obtain⟨v,n,f,i⟩:=a.look_ok MZ underlying269 (UC w) (plainElem_int underlying3 (by decide)) (Pg g);obtain⟨c,rfl,_⟩:=plainElem_int_inv underlying3 i;refine⟨c, ?_⟩;rw[f];have:Maps.has D (Ra s)=b:=by rw[Bool.eq_iff_iff,d,e]
 rw[this]
theorem E2.look{w:Wl}{m:Nat}{ks:List BY}{k:Nat}(h:E2 w m ks k){s:BY}(l:s.size<=maxLen){j:Nat}(f:j<k)(g:ks[j]? =some s):
  (Instr.lookup 269 (.map (some m)) (.string s) false).run prog w= .ok (.int .i64 j) w:=by
 obtain⟨D,a,n,o,b⟩:=h;obtain⟨c,i,d,_⟩:=a.lookup_int MZ underlying269 underlying3 (UC w) (Pg l);rw[i]
 have e:c=(j:Int):=by
  have e:=d.symm.trans (b j s f g);simpa using e
 rw[e]
theorem CV{c:Array Oper}{rest:List Oper}{o:Oper}{a:Act}{Q:Exit->Act->Wl->Prop}(w:Wl)(g:o.guard=none)(m x v:Operand)(l:o.op=Op.mapUpdate 269 m x v)(b k:Nat)(ks:List BY)(i:a.eval m= .map (some b))(n:E2 w b ks k)(s:BY)(t:a.eval x= .string s)(r:a.eval v= .int .i64 k)(h:ks[k]? =some s)(f:s∉ks.take k)(q:s.size<=maxLen)(j:k<=4294967296)(d:∀w',E2 w' b ks (k+1)->Chg w w' [b]->wpList prog c Q rest (a.put o.dst undef) w'):
  wpList prog c Q (o::rest) a w:=by
 refine wpList_plain g fun z e=> ?_
 obtain⟨w',p,u,y⟩:=n.store h f q j;unfold Oper.wp;simp only[execOp,l,i,t,r,Sem.run_bind,p,Result.andThen_ok,Sem.run_pure];exact e _ _ (d w' u y)
end
end Go.Proofs.YtkfnkppdhcaeoaaGreatDoor

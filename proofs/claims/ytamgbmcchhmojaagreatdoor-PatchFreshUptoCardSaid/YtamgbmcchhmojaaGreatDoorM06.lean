/- Part 6 of the proof of patchFresh_card. -/
import Derived.Deep.RegionWith
import Derived.Lib.AppendIntMem
import Derived.Lib.OwnBridge
import Derived.Maps.OwnOps
import Derived.Maps.OwnSet
import Derived.Maps.Views
import Derived.StringKeys
import Derived.Test.YtamgbmcchhmojaaGreatDoorM04
import Derived.Test.YtamgbmcchhmojaaGreatDoorM05
set_option maxRecDepth 100000
set_option maxHeartbeats 32000000
set_option linter.all false
namespace Go.Proofs.YtamgbmcchhmojaaGreatDoor
open Go renaming Calls->Cl,TypeId->Ti,Value->Vl,World->Wl
open Go.Value renaming agg->nA,iface->nF,int->nI,pointer->nP,slice->nS,string->nG,tuple->nT
open Go.IntKind renaming i64->nX
open Go.Ending renaming returned->nR
open Go.Obj renaming cells->nC
open Option renaming none->nN,some->nM
section
open _root_.Go.Proofs.Tryz
open Go Go.Shelf Go.RowKit Go.Lib Go.Sort Tree
def RT:Type:={s:BY//Utf.Al s=true/\s.size<=2147483648}
instance:Inhabited RT:=⟨⟨ByteArray.empty,ZM,ZM⟩⟩
def QH(x:RT):Vl:= nG x.1
def Wm(x y:RT):Int:=Utf.BK x.1 y.1
theorem ai(x y:RT):ltOf Wm x y=decide (Utf.BK x.1 y.1<0):=rfl
theorem aE:SWO (ltOf Wm) where
 irrefl x:=by simp[ai,Utf.Gc]
 trans x y z h1 h2:=by
  simp only[ai,decide_eq_true_eq]at*;exact Utf.Ev h1 h2
 ntrans x y z h1 h2:=by
  simp only[ai,decide_eq_false_iff_not]at*;intro d;have g:=Utf.Ej x.1 y.1;have h:=Utf.Ej y.1 z.1;have i:=Utf.Ej x.1 z.1;by_cases e:Utf.BK x.1 y.1=0
  .have:=Utf.FJ e;rw[this]at d;exact h2 d
  .by_cases f:Utf.BK y.1 z.1=0
   .have:=Utf.FJ f;rw[<-this]at d;exact h1 d
   .have:=Utf.Ev (a:=z.1) (b:=y.1) (c:=x.1) Zj Zj;omega
theorem aF(x y:RT)(a:ltOf Wm x y=false)(b:ltOf Wm y x=false):x=y:=by
 simp only[ai,decide_eq_false_iff_not]at*;have c:=Utf.Ej x.1 y.1;exact Subtype.ext (Utf.FJ Zj)
theorem AB.grew{w w':Wl}(h:AB w w' []):∃q os,w'=grow (w.drewN q) os:=by
 refine⟨w'.drawn-w.drawn,w'.heap.extract w.heap.size w'.heap.size, ?_⟩
 have d:w'.heap=w.heap++w'.heap.extract w.heap.size w'.heap.size:=by
  apply Array.ext_getElem?;intro i;by_cases hi:i<w.heap.size
  .rw[Array.getElem?_append_left hi];exact h.block i hi Zh
  .rw[Array.getElem?_append_right Zj,Array.getElem?_extract];have:=h.size;by_cases a:i<w'.heap.size
   .rw[Qr Zj]
    congr 1
    omega
   .rw[Qs Zj,Array.getElem?_eq_none Zj]
 have f:=h.drawn;have b:=h.os;have a:=h.tape;have c:=h.output;cases w with
 |mk heap m drawn os k=>
  cases w' with
  |mk g n e j l=>
   simp only at*;subst b;subst a;subst c;unfold grow World.drewN;simp only;rw[<-d]
   congr 1
   omega
theorem XO(a c size:Nat)(w:Wl):CmpLays1 prog 100 #[] QH Wm a c size w:=by
 intro m os d _ x y;refine(I6 x.1 y.1 _ x.2.2 y.2.2 x.2.1 y.2.1).mono ?_;rintro e w' ⟨rfl,b⟩;exact⟨rfl,b.grew⟩
theorem zR{p:Prop}(h:p:=by simp;omega):p:=h
theorem VI(g cap:Nat)(ks:List RT)(w:Wl)(t:ks.length<=4294967296)(j:AK w (nS (nM ⟨g,0,nN⟩) ks.length cap) 9 (ks.map QH)):
  Cl prog 99 #[nS (nM ⟨g,0,nN⟩) ks.length cap,.func (.func 100) #[] #[]] w fun e w'=>
   e= nR (nT #[])/\AK w' (nS (nM ⟨g,0,nN⟩) ks.length cap) 9 ((ks.mergeSort fun x y=> !(ltOf Wm) y x).map QH)/\Chg w w' [g]:=by
 have f:∀args w,(callFunc 100 args).run prog w= .ok (.enter 100 args) w:=enters_of func100 Yb rfl;have b:=j;unfold AK at b;rw[List.length_map]at b;obtain⟨s,r,a,_,m,_,_,_,i⟩:=holds_of_ownsRow b Zh;injection a with a _ l
 injection a with a
 injection a with a
 subst a;subst l;have c:=Any.slices_SortFunc_total bB QH (fun _=>rfl) Wm aE 100 #[] g 0 cap ks.toArray w f (XO g 0 _ w) i m zR aF;rw[List.size_toArray]at c;change Cl prog 99 _ _ _ at c;refine c.mono ?_;rintro e w' ⟨rfl,n,os,rfl⟩;refine⟨rfl, ?_, ?_⟩
 .have h:=ownsRow_putRow (q:=n) (k:=ks.length) (ys:=ks.mergeSort fun x y=> !(ltOf Wm) y x) b Zh (Q8 _);have d:=ownsRow_grow h 0 os;unfold AK sortWorld;rw[List.length_map,List.length_mergeSort];rw[Qn Zh]at d;exact d
 .refine⟨rfl,rfl,rfl,by simp[sortWorld,putRow,mapBlock,Sort.ahead],fun k o p=> ?_⟩;unfold sortWorld;rw[show(grow (putRow QH (Sort.ahead w n) g 0 (ks.mergeSort fun x y=> !(ltOf Wm) y x).toArray) os).heap[k]? =(putRow QH (Sort.ahead w n) g 0 (ks.mergeSort fun x y=> !(ltOf Wm) y x).toArray).heap[k]? from Array.getElem?_append_left (by simpa[putRow,mapBlock,Sort.ahead]using o)];have:g≠k:=fun e=>p (by simp[e]);simp[putRow,mapBlock,Sort.ahead,Array.getElem?_modify,this]
def V0(x:RT):BY:=x.1
theorem OH(l:List RT):Ad (l.map V0)=l.map QH:=by unfold Ad QH V0;rw[List.map_map];rfl
theorem NZ:∀(ks:List BY),(∀s∈ks,Utf.Al s=true)->(∀s∈ks,s.size<=2147483648)->∃l:List RT,l.map V0=ks
 |[],_,_=>⟨[],rfl⟩
 |s::ks,c,d=>by
  obtain⟨l,e⟩:=NZ ks (fun t b=>c t (by simp[b])) (fun t b=>d t (by simp[b]))
  let x:RT:=⟨s,c s Zh,d s Zh⟩
  exact⟨x::l,(List.map_cons (f:=V0) (a:=x) (l:=l)).trans (by rw[e];rfl)⟩
theorem XN(l:List RT):(l.mergeSort fun x y=> !(ltOf Wm) y x).map V0=AY (l.map V0):=by
 unfold AY;rw[List.map_mergeSort];intro a _ b _;rfl
def Wg(ks:List BY)(a:Option Addr)(cap:Nat)(w:Wl)(e:Ending)(w':Wl):Prop:=
 e= nR (nT #[])/\AK w' (nS a ks.length cap) 9 (Ad (AY ks))/\Chg w w' (Vl.slice a ks.length cap).ownBlock.toList
theorem J9(ks:List BY)(a:Option Addr)(cap:Nat)(w:Wl)(n:∀s∈ks,Utf.Al s=true)(o:∀s∈ks,s.size<=2147483648)(d:ks.length<=4294967296)(b:AK w (nS a ks.length cap) 9 (Ad ks)):
  Cl prog 99 #[nS a ks.length cap,.func (.func 100) #[] #[]] w (Wg ks a cap w):=by
 by_cases c:ks=[]
 .subst c;have:=AnyF.slices_SortFunc_none bA a cap (.func (.func 100) #[] #[]) w;change Cl prog 99 _ _ _ at this;refine this.mono ?_;rintro e w' ⟨rfl,rfl⟩;exact⟨rfl,by simpa[AY]using b,Chg.refl _ _⟩
 .obtain⟨l,rfl⟩:=NZ ks n o;obtain⟨p,q,f,m⟩:=b.form;injection f with h _ i
  subst h;subst i;obtain⟨g,rfl⟩:=m (by simpa[Ad]using c);rw[List.length_map]at d b|-;refine(VI g cap l w d (by rw[<-OH];exact b)).mono ?_;rintro e w' ⟨rfl,j,k⟩;refine⟨rfl, ?_,by simpa[Vl.ownBlock]using k⟩;rw[<-XN,List.length_map];rw[OH];exact j
end
section
open _root_.Go.Proofs.Tryz
open Go Go.RowKit
theorem Lp(p:Addr)(x:Vl)(n:Int)(w:Wl)(d:w.cell? p=nM x)(g:w.frozen? p=false):
  CallsD prog 62 #[nP (nM p)] (.panicking [{v:= nF 70 (nI nX n),recovered:=false}]) w fun e b w'=>
   e= nR (nT #[])/\b= .panicking [{v:= nF 70 (nI nX n),recovered:=true}]/\w'=w.setCell p (nF 70 (nI nX n)):=by
 have f:∀(k:Int) (w:Wl),(Instr.typeAssert (nF 70 (nI nX k)) 20 70 false).run prog w= .ok (nI nX k) w:=fun _ _=>Yb;refine callsD_of_wpS func62 rfl fun c cs a=> ?_;apply wpS_seq;apply wpS_region;simp[wpOpsS,go_sem,recoverD,a,ntmps62,Exit.thenS];refine wpS_of_wp ?_;simp[Array.replicate];go_wp2;simp_all[bodyPostS,results,results62]
theorem DZ(p:Addr)(w:Wl):
  CallsD prog 62 #[nP (nM p)] .returning w fun e c w'=>e= nR (nT #[])/\c= .returning/\w'=w:=by
 refine callsD_of_wpS func62 rfl fun a cs b=> ?_;apply wpS_seq;apply wpS_region;simp[wpOpsS,go_sem,recoverD,b,ntmps62,Exit.thenS];refine wpS_of_wp ?_;simp[Array.replicate];go_wp2;cases a
 simp_all[bodyPostS,results,results62]
theorem OX(B:Nat)(x:Vl)(n:Int)(w:Wl)(a:Ac w B [x] 70):
  CallsD prog 45 #[nP (nM ⟨B,0,nN⟩)] (.panicking [{v:=KN n,recovered:=false}]) w fun e d w'=>
   e= nR (nT #[])/\d= .panicking [{v:=KN n,recovered:=true}]/\Ac w' B [nI nX n] 70/\Chg w w' [B]:=by
 have h:∀(k:Int) (w:Wl),(Instr.typeAssert (nF 122 (nA #[nI nX k])) 20 122 true).run prog w= .ok (nT #[nA #[nI nX k],.bool true]) w:=fun _ _=>Yb;have b:=a.cell 0;simp only[Qa]at b;have i:=a.frozen 0;have g:=a.lt;refine callsD_of_wpS func45 rfl fun f cs c=> ?_;apply wpS_seq;apply wpS_region;simp[wpOpsS,go_sem,recoverD,c,ntmps45,Exit.thenS];unfold KN;refine wpS_of_wp ?_;simp[Array.replicate];go_wp2;simp only[bodyPostS,results,results45];refine⟨trivial,_,rfl,nT #[],by simp[go_sem],rfl,rfl, ?_, ?_⟩
 .exact(a.set 0 (nI nX n)).alloc _
 .exact((Chg.refl w [B]).setCell _ _ (fun _=>Zh)).alloc _
theorem Qu(p:Addr)(w:Wl):
  CallsD prog 45 #[nP (nM p)] .returning w fun e c w'=>e= nR (nT #[])/\c= .returning/\w'=w:=by
 refine callsD_of_wpS func45 rfl fun a cs b=> ?_;apply wpS_seq;apply wpS_region;simp[wpOpsS,go_sem,recoverD,b,ntmps45,Exit.thenS];refine wpS_of_wp ?_;simp[Array.replicate];go_wp2;cases a
 simp_all[bodyPostS,results,results45]
def GB(R:Wl->Ending->Wl->Prop)(c:List Nat)(w:Wl)(e:Ending)(w':Wl):Prop:=
 ∃(a b:Wl) (B:Nat),Chg w a []/\w.heap.size<=B/\B<a.heap.size/\Chg b w' [B]/\Chg a b c/\((R a (nR (nT #[])) b/\e= nR (nI nX 0))\/(∃k:Int,R a (By k) b/\e= nR (nI nX k)))
theorem Qt(R:Wl->Ending->Wl->Prop)(g:List Nat)(w d b:Wl)(a:Act)(n:Int)(B:Nat)(o:a.defers=[{target:= .fn (.func 45) #[nP (nM ⟨B,0,nN⟩)],args:=#[]}])(j:a.tmps.getD 2 undef= nP (nM ⟨B,0,nN⟩))(l:Ac b B [nI nX 0] 70)(h:Chg w d [])(q:w.heap.size<=B)(p:B<d.heap.size)(i:Chg d b g)(m:R d (By n) b):
  bodyPostD prog f26 (GB R g w) (.panic [{v:=KN n,recovered:=false}]) a b:=by
 show Leaves _ _ a.tmps _ a.defers (.panicking _) b
 rw[o];refine leaves_cons (f:=45) (args:=#[nP (nM ⟨B,0,nN⟩)]) Zh (by simp[go_sem]) ?_;refine(OX B (nI nX 0) n b l).mono ?_;rintro e t u ⟨rfl,rfl,r,s⟩;have c:=r.cell 0;simp only[Qa]at c;refine⟨nI nX n, ?_,d,b,B,h,q,p,s,i,.inr ⟨n,m,rfl⟩⟩;have k:a.tmps[2]?.getD undef= nP (nM ⟨B,0,nN⟩):=by simpa using j
 simp[results,results26,go_sem,k,c]
theorem Xp(n:Nat)(i:Array Vl)(d:List Nat)(w:Wl)(R:Wl->Ending->Wl->Prop)(t:∀b,b∈d->b<w.heap.size)(C:∀w,(callFunc n i).run prog w= .ok (.enter n i) w)(r:∀c,Chg w c []->Cl prog n i c (R c))(q:∀c e a,R c e a->Chg c a d/\(e= nR (nT #[])\/∃k:Int,e=By k)):
  Cl prog 26 #[.func (.func n) #[] i] w (GB R d w):=by
 have F:∀(p:Fn) (first cap:Array Vl) (w:Wl),(Instr.makeFunc p first cap).run prog w= .ok (.func p first cap) w:=fun _ _ _ _=>rfl;have v:=hZ r;have y:=hZ q;have u:=UD (Ac (w.alloc (nC #[nI nX 0] 70)) w.heap.size [nI nX 0] 70) (Ac.new w [nI nX 0] _);have x:=UD (w.heap.size∉d) (fun h=>Nat.lt_irrefl _ (t _ h));clear r q t;go_enter_defers func26,ntmps26
 go_wp2_with((refine(v.o _ (by exact cg cR)).mono ?_;intro e a l;obtain⟨j,A⟩:=y.o _ _ _ l;have o:=hZ l;have m:=hZ j;have g:=hZ (u.o.kept j x.o);have G:=g.o.lt;obtain⟨E,D,B⟩:=g.o.cells1;clear l j;rcases A with rfl|⟨k,s⟩;rotate_left;(unfold By at s;subst s)))
 .exact Qt R d w _ a _ _ w.heap.size rfl rfl g.o ((Chg.refl w []).alloc _) (Q8 _) Zh m.o o.o
 .refine leaves_cons (f:=45) (args:=#[nP (nM ⟨w.heap.size,0,nN⟩)]) Zh (by simp[go_sem]) ?_;refine(Qu ⟨w.heap.size,0,nN⟩ _).mono ?_;rintro e H I ⟨rfl,rfl,rfl⟩;have z:(a.setCell ⟨w.heap.size,0,nN⟩ (nI nX 0)).cell? ⟨w.heap.size,0,nN⟩=nM (nI nX 0):=(g.o.set 0 _).cell 0;simp[Leaves,settle,results,results26,go_sem,z];exact⟨_,a,w.heap.size,(Chg.refl w []).alloc _,Q8 _,Zh,(Chg.refl a _).setCell _ _ Zh,m.o,.inl ⟨o.o,rfl⟩⟩
end
section
open _root_.Go.Proofs.Tryz
open Go Go.RowKit Go.Maps Go.WideMaps
variable{s:BY}{ks:List BY}{k m:Nat}{w:Wl}
def Ra(s:BY):Lit:= .string s.data.toList
theorem Rb{t:BY}(h:Ra s=Ra t):s=t:=by
 unfold Ra at h;injection h with h
 cases s with|mk a=>cases t with|mk b=>cases a;cases b;simp_all
def E2(w:Wl)(m:Nat)(ks:List BY)(k:Nat):Prop:=
 ∃D:DataW Nat,w.ownsMap prog 9 (plainElem prog 3) m k D/\IsMap D/\(∀s,Maps.has D (Ra s)=true↔s∈ks.take k)/\
  ∀j s,j<k->ks[j]? =some s->D.atKey (Ra s) (.lit (.int .i64 0))= .lit (.int .i64 j)
theorem MZ:Maps.Keyed prog 9:=string_keyed underlying9
theorem Pg(a:s.size<=maxLen):keyOf prog 9 (.string s)=some (Ra s):=keyOf_string_mk underlying9 a
theorem E2.made(w:Wl)(ks:List BY):E2 (w.alloc (.map #[] 0)) w.heap.size ks 0:=
 ⟨.map [],World.ownsMap_made _ _ _ _,Maps.isMap_empty,fun s=>by simp[Maps.has_eq],fun j s h=>Zj⟩
theorem E2.lt(h:E2 w m ks k):m<w.heap.size:=by
 obtain⟨D,h,_⟩:=h;exact h.lt
theorem E2.kept{w':Wl}{bs:List Nat}(h:E2 w m ks k)(f:Chg w w' bs)(g:m∉bs:=by simp):E2 w' m ks k:=by
 obtain⟨D,⟨c,b,a,d⟩,e⟩:=h;exact⟨D,⟨c,b,(f.block m (Array.getElem?_eq_some_iff.1 a).1 g).trans a,d⟩,e⟩
theorem zP{p:Prop}(h:p:=by unfold maxLen;omega):p:=h
theorem E2.store(h:E2 w m ks k)(f:ks[k]? =some s)(q:s∉ks.take k)(x:s.size<=maxLen)(z:k<=4294967296):
  ∃w',(Instr.mapUpdate 202 (.map (some m)) (.string s) (.int .i64 k)).run prog w= .ok () w'/\E2 w' m ks (k+1)/\Chg w w' [m]:=by
 obtain⟨D,n,d,o,p⟩:=h;obtain⟨w',v,l,c⟩:=n.update MZ underlying202 zP (Pg x) (plainElem_int (H:=Nat) underlying3 (a:=(k:Int)) (WalkArith.wf_i64 Zj));have g:WideAt.IsKeyLit (Ra s):=trivial;refine⟨w',v,⟨_,l,d.put _ _,fun t=> ?_,fun j t y b=> ?_⟩,⟨c.os,c.tape,c.output,c.size,fun i hi u=>c.block i hi fun e=>u (by simpa using e)⟩⟩
 .rw[List.take_add_one,f];by_cases e:t=s
  .subst e;simp[Maps.has_put_same d g]
  .rw[Maps.has_put_other (fun h=>e (Rb h))];rw[o];simp[e]
 .by_cases e:t=s
  .subst e
   have:j=k:=by
    by_cases r:j=k
    .exact r
    .exact absurd (List.mem_iff_getElem?.2 ⟨j,by rw[List.getElem?_take];simp[show j<k by omega,b]⟩) q
   subst this;exact Maps.atKey_put_same d g _ _
  .rw[Maps.atKey_put_other (fun h=>e (Rb h))];refine p j t ?_ b;have:j≠k:=by rintro rfl;rw[f]at b;injection b with b;exact e b.symm
   omega
theorem UC(w:Wl):(zeroValue 3).run prog w= .ok (.int .i64 0) w:=Yb
theorem E2.look_ok(h:E2 w m ks k)(g:s.size<=maxLen)(b:Bool)(e:b=true↔s∈ks.take k):
  ∃c:Int,(Instr.lookup 202 (.map (some m)) (.string s) true).run prog w= .ok (.tuple #[.int .i64 c,.bool b]) w:=by
 obtain⟨D,a,j,d,l⟩:=h;obtain⟨v,n,f,i⟩:=a.look_ok MZ underlying202 (UC w) (plainElem_int underlying3 ZM) (Pg g);obtain⟨c,rfl,_⟩:=plainElem_int_inv underlying3 i;refine⟨c, ?_⟩;rw[f];have:Maps.has D (Ra s)=b:=by rw[Bool.eq_iff_iff,d,e]
 rw[this]
theorem E2.look(h:E2 w m ks k)(l:s.size<=maxLen){j:Nat}(f:j<k)(g:ks[j]? =some s):
  (Instr.lookup 202 (.map (some m)) (.string s) false).run prog w= .ok (.int .i64 j) w:=by
 obtain⟨D,a,n,o,b⟩:=h;obtain⟨c,i,d,_⟩:=a.lookup_int MZ underlying202 underlying3 (UC w) (Pg l);rw[i]
 have e:c=(j:Int):=by
  have e:=d.symm.trans (b j s f g);simpa using e
 rw[e]
theorem CV{c:Array Oper}{rest:List Oper}{o:Oper}{a:Act}{Q:Exit->Act->Wl->Prop}(w:Wl)(g:o.guard=none)(m x v:Operand)(l:o.op=Op.mapUpdate 202 m x v)(b k:Nat)(ks:List BY)(i:a.eval m= .map (some b))(n:E2 w b ks k)(s:BY)(t:a.eval x= .string s)(r:a.eval v= .int .i64 k)(h:ks[k]? =some s)(f:s∉ks.take k)(q:s.size<=maxLen)(j:k<=4294967296)(d:∀w',E2 w' b ks (k+1)->Chg w w' [b]->wpList prog c Q rest (a.put o.dst undef) w'):
  wpList prog c Q (o::rest) a w:=by
 refine wpList_plain g fun z e=> ?_;obtain⟨w',p,u,y⟩:=n.store h f q j;unfold Oper.wp;simp only[execOp,l,i,t,r,Sem.run_bind,p,Result.andThen_ok,Sem.run_pure];exact e _ _ (d w' u y)
end
section
open _root_.Go.Proofs.Tryz
open Go Go.RowKit Tree
variable{s:BY}{ks:List BY}{l:List Tr}{vs:List Vl}{b:Nat}{F:Nat->Prop}{T:Ti}{sv:Vl}{w:Wl}
theorem C3.grown{w':Wl}{c:Nat->Prop}(h:C3 w F T b sv l vs)(d:Chg w w' [])(i:∀k,F k->c k)(f:∀k,c k->F k\/w.heap.size<=k)(n:∀k,c k->k<w'.heap.size):
  C3 w' c T b sv l vs:=by
 refine⟨h.blk.kept d,h.lst.kept d,Ak.kept (d.keepsF h.lt) i l vs h.items,fun j=> ?_,fun g e=>⟨fun m=> ?_,(h.apart' g e).2⟩,n⟩
 .rcases f b j with a|a
  .exact h.apart a
  .have:=h.blk.lt;omega
 .rcases f g m with a|a
  .exact(h.apart' g e).1 a
  .have:=h.lst.lt e;omega
theorem FZ.after{f w2:Wl}(e:Chg w f [])(h:FZ F T b sv l f w2):FZ F T b sv l w w2:=by
 obtain⟨j,k,a,c,d⟩:=h;refine⟨j,k,a,(e.none _).trans c,fun g i=> ?_⟩;have:=e.size;rcases d g i with d|d
 .exact .inl d
 .exact .inr Zj
theorem Ak.mk:∀(ts:List Tr) (vs:List Vl),ts.length=vs.length->(∀(i:Nat) (t:Tr) (v:Vl),ts[i]? =nM t->vs[i]? =nM v->Af w F t v)->Ak w F ts vs
 |[],[],_,_=>by simp[Ak]
 |[],_::_,h,_=>by simp at h
 |_::_,[],h,_=>by simp at h
 |t::ts,v::vs,h,hi=>by
  simp only[Ak];exact⟨v,vs,rfl,hi 0 t v rfl rfl,Ak.mk ts vs (by simpa using h) fun i c v' a b=>hi (i+1) c v' (by simpa using a) (by simpa using b)⟩
def Kv(ks:List BY)(vs:List Vl):List Vl:=(AY ks).map fun s=>vs.getD (A5 ks s) .nilIface
theorem Mw(b:ks.length=vs.length){i:Nat}(h:(AY ks)[i]? =nM s):∃v,vs[A5 ks s]? =nM v/\(Kv ks vs)[i]? =nM v:=by
 have a:s∈ks:=D9.1 (Qi h);have c:=Dk a;refine⟨vs[A5 ks s]' Zj,Q9 Zj, ?_⟩;unfold Kv;rw[List.getElem?_map,h,Option.map_some,List.getD_eq_getElem?_getD,Q9 Zj];rfl
theorem EP(ks:List BY)(vs:List Vl):(Kv ks vs).length=ks.length:=by unfold Kv;rw[List.length_map,A3]
theorem Mx(d:ks.length=l.length)(h:Ak w F l vs):Ak w F (LA ks l) (Kv ks vs):=by
 refine Ak.mk _ _ (by rw[DD,EP]) fun i t v c k=> ?_
 have hi:i<(AY ks).length:=by
  have:=(Qc.1 c).1;rwa[DD,<-A3]at this
 have e:=Q9 hi;obtain⟨m,f,a⟩:=Rp d e;obtain⟨v',g,b⟩:=Mw (by rw[d,h.length]) e;rw[c]at a;injection a with a;subst a
 rw[k]at b;injection b with b;subst b
 obtain⟨n,c1,j⟩:=h.get _ _ f;rw[g]at c1;injection c1 with c1;subst c1
 exact j
def Yg(F:Nat->Prop)(T:Ti)(b:Nat)(sv:Vl)(l:List Tr)(w:Wl)(e:Ending)(w':Wl):Prop:=
 e= nR (nT #[])/\∃a:Nat->Prop,(∀k,F k->a k)/\(∀k,a k->k<w.heap.size->F k)/\FZ a T b sv l w w'
theorem GA{a c d e f:Vl}(h:Ac w b [a,c,d,e,f] T):b<w.heap.size/\(∀j,w.frozen? ⟨b,j,nN⟩=false)/\w.cell? ⟨b,0,nN⟩=nM a/\
  w.cell? ⟨b,1,nN⟩=nM c/\w.cell? ⟨b,2,nN⟩=nM d/\w.cell? ⟨b,3,nN⟩=nM e/\w.cell? ⟨b,4,nN⟩=nM f:=
 ⟨h.lt,fun j=>h.frozen j,h.cell 0,h.cell 1,h.cell 2,h.cell 3,h.cell 4⟩
theorem AK.rowAt{e:Ti}(h:AK w sv e vs)(c:∀g,sv.ownBlock=nM g->F g):Ax w F sv vs:=by
 obtain⟨a,cap,rfl,d⟩:=h.form;by_cases b:vs=[]
 .subst b;exact .inl ⟨rfl,a,cap,rfl⟩
 .obtain⟨g,rfl⟩:=d b;exact .inr ⟨g,0,cap,rfl,c g rfl,fun i v f=>by rw[Nat.zero_add];exact h.cell rfl i v f⟩
def PT(w:Wl)(e:Ending)(w':Wl):Prop:=(∃n:Int,e= .panicked [{v:= nF 70 (nI nX n),recovered:=false}])/\Chg w w' []
def ux(l:List Tr)(ks:List BY):Prop:=(∀s∈ks,Utf.Al s=true)/\ks.Nodup/\ks.length<=l.length/\(Ag (D1 ks (l.drop (l.length-ks.length)))).within=true
def uA(F:Nat->Prop)(T:Ti)(b:Nat)(sv:Vl)(l:List Tr)(ks:List BY)(w:Wl)(e:Ending)(w':Wl):Prop:=(ux l ks->Yg F T b sv (l.take (l.length-ks.length)++[D1 ks (l.drop (l.length-ks.length))]) w e w')/\(¬ux l ks->PT w e w')
theorem uy{k:Nat}(h:ks.Nodup)(b:ks[k]? =nM s):s∉ks.take k:=fun c=>by
 obtain⟨j,a⟩:=List.mem_iff_getElem?.1 c;rw[List.getElem?_take]at a;split at a
 .have:=(List.getElem?_inj (Qc.1 a).1 h).1 (a.trans b.symm);omega
 .cases a
theorem zQ{p:Prop}(h:p:=by rw[Qm];have:=O.o;omega):p:=h
theorem uw(F:Nat->Prop)(T:Ti)(b:Nat)(sv:Vl)(l:List Tr)(vs:List Vl)(w:Wl)(hM:C3 w F T b sv l vs)(G:Nat->Prop)(sk:Vl)(ks:List BY)(hK:Ax w G sk (Ad ks))(hG:∀k,G k->k<w.heap.size)(m:∀s∈ks,s.size<=2147483648)(f:ks.length<=2147483648)(aO:ks.length<=l.length->ks.length<=65536)(ce:(ks.map ByteArray.size).sum<=1099511627776)(hF:EJ l)(hl:l.length<=2147483648):
  Cl prog 73 #[nP (nM ⟨b,0,nN⟩),sk] w (uA F T b sv l ks w):=by
 obtain⟨a,c,rfl,bc⟩:=hK.cell;have av:(Ad ks).length=ks.length:=by simp[Ad]
 have HK:=hZ hK;have HC:=hZ bc;have HS:=hZ m;have HM:=hZ hM;have cl:=@run_makeMap prog;have bD:=hZ aO;clear hM hK m bc aO;rw[av];go_enter func73,ntmps73;go_wp2_with fail
 go_loopw [18] (fun i wr=>∃k:Nat,k<=ks.length/\i= nI nX k/\Chg w wr []/\∀s∈ks.take k,Utf.Al s=true)
  (fun i _=>ks.length-(intOf i).toNat)
 case atStart=>exact⟨0,Zj,rfl,Chg.refl _ _,fun s h=>by simp at h⟩
 case round=>
  obtain⟨k,ch,rfl,d,ag⟩:=hrel;by_cases aP:k<ks.length
  .have ae:(Ad ks)[k]? =nM (nG ks[k]):=by simp[Ad,aP]
   obtain⟨b',o,aH,bM,aa⟩:=HC.o k _ ae;subst aH;have aK:=d.keeps aa;have ah:=HS.o ks[k] (List.getElem_mem aP);have D:ks[k]? =nM ks[k]:=Q9 aP;obtain⟨s,m⟩:=Ue (ks[k]);rw[<-m]at aK ah D;have bJ:=hZ ag;have aY:=hZ D;clear ae aa m ag D;by_cases aw:Utf.Al s=true
   .have X:=hZ aw;clear aw
    go_wp2_with(first
     |(go_at_call 69;refine(Dq s _ ah).mono ?_;rintro e w2 ⟨rfl,aM⟩;rw[X.o])
     |(go_at_call 63;refine(Au _ _).mono ?_;rintro e w3 ⟨rfl,rfl⟩))
    go_roundw
    case rel=>exact⟨k+1,Zj,by go_num,d.trans aM,fun x hx=>by
     rw[List.take_add_one,aY.o]at hx;rcases Qf.1 hx with h|h
     .exact bJ.o x h
     .simp at h;subst h;exact X.o⟩
    case measure=>simp[intOf];omega
   .have bm:Utf.Al s=false:=by simpa using aw
    have X:=hZ bm;clear aw bm
    go_wp2_with(first
     |(go_at_call 69;refine(Dq s _ ah).mono ?_;rintro e w2 ⟨rfl,aM⟩;rw[X.o])
     |(go_at_call 63;refine(CD _ _).mono ?_;rintro e w3 ⟨rfl,rfl⟩))
    exact⟨rfl,fun h=>absurd (h.1 s (Qi aY.o)) (by rw[X.o];simp),fun _=>⟨⟨100,rfl⟩,d.trans aM⟩⟩
  .have ad:k=ks.length:=by omega
   subst ad;rw[List.take_length]at ag;have HR:=hZ ag;clear ag;obtain⟨wa,b4⟩:=Ue wr;subst b4;go_wp2_with fail;generalize bu:wa.alloc (.map #[] 0)=w2
   go_loopw [29,7] (fun i y wq=>∃k:Nat,k<=ks.length/\i= nI nX k/\y= nI nX ((ks.take k).map ByteArray.size).sum/\Chg w wq []/\E2 wq wa.heap.size ks k/\(ks.take k).Nodup)
    (fun i _ _=>ks.length-(intOf i).toNat)
   case atStart=>exact⟨0,Zj,rfl,Zh,by rw[<-bu];exact d.alloc _,by rw[<-bu];exact E2.made _ _,List.nodup_nil⟩
   case round=>
    obtain⟨k,aO,rfl,rfl,A,q,af⟩:=hrel;by_cases aQ:k<ks.length
    .have ae:(Ad ks)[k]? =nM (nG ks[k]):=by simp[Ad,aQ]
     obtain⟨b',o,aH,bM,aa⟩:=HC.o k _ ae;subst aH;have aK:=A.keeps aa;have ah:=HS.o ks[k] (List.getElem_mem aQ);have D:ks[k]? =nM ks[k]:=Q9 aQ;obtain⟨s,m⟩:=Ue (ks[k]);rw[<-m]at aK ah D;have bI:=hZ af;have W:=hZ q;have ay:=hZ D
     have bK:Hid (((ks.take (k+1)).map ByteArray.size).sum=((ks.take k).map ByteArray.size).sum+s.size):=by
      unfold Hid;rw[List.take_add_one,D];simp
     have HB:((ks.take k).map ByteArray.size).sum<=1099511627776:=by
      have e:(ks.map ByteArray.size).sum=((ks.take k).map ByteArray.size).sum+((ks.drop k).map ByteArray.size).sum:=by
       rw[<-List.sum_append,<-List.map_append,List.take_append_drop]
      omega
     obtain⟨M,ap⟩:=Ue (((ks.take k).map ByteArray.size).sum);rw[<-ap]at HB;have bH:=hZ ap;rw[<-ap];clear ap af D ae aa m;by_cases r:s∈ks.take k
     .obtain⟨cc,bi⟩:=q.look_ok (s:=s) zP true (by simp[r]);have bG:=hZ r;clear q r
      go_wp2_with(first
       |(go_at_call 63;refine(CD _ _).mono ?_;rintro e w3 ⟨rfl,rfl⟩))
      exact⟨rfl,fun h=>absurd bG.o (uy h.2.1 ay.o),fun _=>⟨⟨101,rfl⟩,A⟩⟩
     .obtain⟨cc,bi⟩:=q.look_ok (s:=s) zP false (by simp[r]);have a3:=hZ r;clear q r
      go_wp2_with(first
       |(at_mapUpdate;refine CV _ rfl _ _ _ rfl wa.heap.size k ks rfl W.o s rfl rfl ay.o a3.o zP Zj ?_;intro w5 bS aN)
       |(go_at_call 63;refine(Au _ _).mono ?_;rintro e w3 ⟨rfl,rfl⟩))
      go_roundw
      case rel=>exact⟨k+1,Zj,by go_num,by rw[bK.o,<-bH.o];go_num,A.fresh aN (by have:=d.size;simp;omega),bS,by
       rw[List.take_add_one,ay.o];simp only[Option.toList_some]
       exact List.nodup_append.2 ⟨bI.o,Zh,fun a ha b hb e=>by simp at hb;subst hb;subst e;exact a3.o ha⟩⟩
      case measure=>simp[intOf];omega
    .have ad:k=ks.length:=by omega
     subst ad;rw[List.take_length]at af;have a2:=hZ af;clear af;obtain⟨wb,b5⟩:=Ue wr;subst b5;have b3:=HM.o.items.length;have C:=hZ (HM.o.kept A);rw[List.take_length];have W:=hZ q;clear q;rcases Nat.lt_or_ge l.length ks.length with hn|hn
     .clear W
      go_wp2_with(first
       |(go_at_call 70;go_loud(refine(JS F T b sv l vs _ C.o ks.length Zj).mono ?_;rintro e w5 ⟨rfl,aN⟩)))
      exact⟨rfl,fun h=>absurd h.2.2.1 Zj,fun _=>⟨⟨102,rfl⟩,A.trans aN⟩⟩
     .have cj:ks.length<=65536:=bD.o hn;have bA:=hZ hF;obtain⟨S,hS⟩:∃S,(Bk (l.drop (vs.length-ks.length))).over (ks.map ByteArray.size).sum=S:=⟨_,rfl⟩;have a6:=hZ hS;clear hS;obtain⟨s1,s2,s3⟩:=S
      go_wp2_with(first
       |(go_at_call 70;go_loud(refine(GS F T b sv l vs _ C.o ks.length hn hl).mono ?_;rintro e w5 ⟨v5,rfl,ai,b2,R⟩))
       |(go_at_call 72;go_loud(
         refine(Ie (fun k=>F k\/v5.ownBlock=nM k) v5 (l.drop (vs.length-ks.length)) (vs.drop (vs.length-ks.length)) _ w5 (ai.rowAt fun g d=> .inr d)
          ((C.o.items.kept (R.keepsF C.o.lt) (fun _ h=> .inl h)).drop _) (by
           rintro k (f|f)
           .exact Q6 (C.o.lt k f) R.size
           .exact ai.lt f) (bA.o.drop _) zR Zj).mono ?_
         rintro e w6 ⟨rfl,ar⟩;rw[a6.o];unfold SC))
       |(go_at_call 22;go_loud(
         have a0:=hZ (HK.o.kept ((A.trans (R.trans ar)).keepsF hG) (fun _ h=>h));rw[av]at a0;refine(DL G _ _ w6 a0.o (by intro u hu;simp[Ad]at hu;obtain⟨_,_,rfl⟩:=hu;rfl) (by rw[av];omega)).mono ?_
         rintro e H ⟨v7,rfl,aj,ax,aT⟩;obtain⟨n,v,rfl,bO⟩:=aj.form;rw[av]at aj ax|-))
       |(go_at_call 99;go_loud(
         refine(J9 ks n v _ HR.o HS.o Zj (aj.kept ((Chg.refl H []).alloc _))).mono ?_;rintro e V ⟨rfl,ba,au⟩
         have r:H.heap.size∉(Vl.slice n ks.length v).ownBlock.toList:=by
          intro P;have:=aj.lt (g:=H.heap.size) (by simpa using P);omega
         have aA:=hZ ((Ac.new H [nI nX s1,nI nX s2,nI nX s3,nS n ks.length v,nS nN 0 0] 187).kept au r)
         obtain⟨cb,cd,b6,b7,b8,b9,ca⟩:=GA aA.o)))
      have bV:=R.size;have bW:=ar.size;have bX:=aT.size;have bn:=au.size;have cm:=A.size;have cf:=W.o.lt;simp only[World.size_alloc]at bn;have bk:∀i,i∈(Vl.slice n ks.length v).ownBlock.toList->w6.heap.size<=i:=fun i hi=>ax i (by simpa using hi);have aU:=hZ (((ar.trans aT).alloc (nC #[nI nX s1,nI nX s2,nI nX s3,nS n ks.length v,nS nN 0 0] 187)).fresh au (fun i hi=>by have:=bk i hi;omega));have al:=hZ (R.trans aU.o);have am:=hZ (ai.kept aU.o);have aD:∀g,v5.ownBlock=nM g->g≠H.heap.size:=fun g d=>by have:=ai.lt d;omega
      have bB:=hZ (W.o.kept al.o);have bF:=hZ (C.o.kept al.o);have an:=hZ ba;have aB:=hZ r;have aW:=hZ A;have O:=hZ b3;have bU:H.heap.size<V.heap.size:=Zj;have bx:Hid (∀g,(Vl.slice n ks.length v).ownBlock=nM g->wb.heap.size<=g):=fun g d=>by have:=ax g d;omega
      have aI:wb.heap.size<=H.heap.size:=Zj;clear bV bW bX ai b2 R ar aj ax aT au ba r A bk cb cd b6 b7 b8 b9 ca bO;obtain⟨o,ho⟩:=Ue H.heap.size;rw[<-ho]at bU aA aI aB aD|-;have bw:=hZ aD;clear ho bn aD
      go_loopw [72] (fun i wr=>∃k:Nat,∃E,k<=ks.length/\i= nI nX k/\Chg V wr [o]/\Ac wr o [nI nX s1,nI nX s2,nI nX s3,nS n ks.length v,E] 187/\
        AK wr E 86 ((Kv ks (vs.drop (vs.length-ks.length))).take k)/\∀g,E.ownBlock=nM g->V.heap.size<=g)
       (fun i _=>ks.length-(intOf i).toNat)
      case atStart=>exact⟨0,_,Zj,rfl,Chg.refl _ _,aA.o,AK.nil _ _,fun g d=>by cases d⟩
      case round=>
       obtain⟨k,E,ci,rfl,bf,aE,a9,bb⟩:=hrel;obtain⟨lo,fo,p0,p1,p2,p3,p4⟩:=GA aE;have B:=hZ bf;have bz:=hZ aE;have a1:=hZ a9;have ao:=hZ bb;clear bf aE a9 bb;by_cases aR:k<ks.length
       .have bp:k<(AY ks).length:=by rw[A3];exact aR
        have m:(AY ks)[k]? =nM (AY ks)[k]:=Q9 bp;obtain⟨s,bo⟩:=Ue ((AY ks)[k]);rw[<-bo]at m;clear bo bp;have P:s∈ks:=D9.1 (Qi m);have aS:=Gk P;have bl:=Dk P;obtain⟨u,Q,b0⟩:=Mw (vs:=vs.drop (vs.length-ks.length)) zQ m;obtain⟨U,q⟩:=Ue (A5 ks s);rw[<-q]at aS bl Q;clear q
        have b1:∃t,Af V F t u:=by
         have bQ:=bF.o.items.drop (vs.length-ks.length);have bR:U<(l.drop (vs.length-ks.length)).length:=zQ
         obtain⟨v',c1,c2⟩:=bQ.get U _ (Q9 bR);rw[Q]at c1;injection c1 with c1;subst c1
         exact⟨_,c2⟩
        obtain⟨tu,br⟩:=b1;obtain⟨ti,xi,rfl⟩:=br.iface
        have bh:∃J,n=nM ⟨J,0,nN⟩/\wr.cell? ⟨J,k,nN⟩=nM (nG s):=by
         obtain⟨a',c',Z,aG⟩:=an.o.form;injection Z with e1 _ e3
         subst e1;obtain⟨J,rfl⟩:=aG (by intro h0;have L:=congrArg List.length h0;unfold Ad at L;rw[List.length_map,A3]at L;rw[L]at aR;simp at aR);have aJ:V.cell? ⟨J,k,nN⟩=nM (nG s):=an.o.cell rfl k _ (by simp[Ad,m]);refine⟨J,rfl,(B.o.cell (p:=⟨J,k,nN⟩) (an.o.lt rfl) ?_).trans aJ⟩;have:=aB.o;simp[Vl.ownBlock]at this|-;exact fun e=>this e.symm
        obtain⟨J,rfl,bh⟩:=bh
        have bt:∃z c5,v5= nS (nM ⟨z,0,nN⟩) ks.length c5/\wr.cell? ⟨z,U,nN⟩=nM (nF ti xi):=by
         obtain⟨a',c',Z,aG⟩:=am.o.form;obtain⟨z,rfl⟩:=aG (by intro h0;rw[h0]at Q;simp at Q);have bT:(vs.drop (vs.length-ks.length)).length=ks.length:=zQ
         rw[bT]at Z;refine⟨z,c',Z, ?_⟩;have h5:v5.ownBlock=nM z:=by rw[Z];rfl
         have aJ:V.cell? ⟨z,U,nN⟩=nM (nF ti xi):=am.o.cell h5 U _ Q;refine(B.o.cell (p:=⟨z,U,nN⟩) (am.o.lt h5) ?_).trans aJ;have:=bw.o z h5;simp;exact this
        obtain⟨z,c5,rfl,bt⟩:=bt;have bC:=hZ ((bB.o.kept B.o zR).kept ((Chg.refl wr []).drew));have bY:=HS.o s P;have bi:=bC.o.look (s:=s) zP bl aS
        have az:Hid (((Kv ks (vs.drop (vs.length-ks.length))).take k).length=k):=by
         unfold Hid;rw[Ql,EP];omega
        have bj:o∉E.ownBlock.toList:=by
         intro hh;have:=ao.o o (by simpa using hh);omega
        have a4:=hZ bj;clear bj aS Q br P m bY;go_wp2;go_region_law(first|(refine Df rfl _ _ _ rfl 86 .nilIface 16 underlying109 Ge rfl E ((Kv ks (vs.drop (vs.length-ks.length))).take k) ZN (by exact a1.o.kept (bs:=[]) (by exact cg cR) Zh) wr.heap.size (nF ti xi) ZN (by exact Bx Zh _ _) rfl (by rw[az.o];omega) (by rw[az.o];omega) ?_;rw[az.o];intro g bL w9 bN a7 a8;have ak:=hZ ((bz.o.alloc (nC #[nF ti xi] 86)).drew.kept a7 a4.o);have c9:w9.cell? ⟨o,4,nN⟩=nM E:=ak.o.cell 4;have f9:∀j,w9.frozen? ⟨o,j,nN⟩=false:=(fun j=>ak.o.frozen j);have cn:=ak.o.lt))
        all_goals
         go_wp2;go_roundw
         case rel=>
          have G3:=B.o;have bZ:=B.o.size;refine⟨k+1,nS (nM ⟨g,0,nN⟩) (k+1) bL,Zj,by go_num,(Chg.own (sv:= nS nN 0 0) (by exact cg G3) a7 (fun g d=>by cases d) (fun g d=> .inr (ao.o g d))).setCell _ _ Zh,ak.o.set 4 _, ?_, ?_⟩
          .rw[List.take_add_one,b0]
           exact bN.kept (bs:=[o]) ((Chg.refl _ _).setCell _ _ Zh) (by
            intro g' ab;simp[Vl.ownBlock]at ab;subst ab;rcases a8 with h|h
            .intro K;simp at K;subst K;exact a4.o (by simp[h])
            .simp at h;intro K;simp at K;omega)
          .intro g' ab;simp[Vl.ownBlock]at ab;subst ab;rcases a8 with h|h
           .exact ao.o _ h
           .simp at h;omega
         case measure=>simp[intOf];omega
       .have ad:k=ks.length:=by omega
        subst ad;have aL:(l.drop (vs.length-ks.length)).length=ks.length:=zQ
        have be:(vs.drop (vs.length-ks.length)).length=ks.length:=zQ
        have bv:l.drop (l.length-ks.length)=l.drop (vs.length-ks.length):=by rw[O.o]
        have bq:Ag (D1 ks (l.drop (vs.length-ks.length)))=⟨s1,s2,s3⟩:=(Kd a2.o aL.symm).trans a6.o;have bZ:=B.o.size;have aq:Chg wb wr []:=al.o.fresh B.o (by simp;exact aI);have bd:Chg w wr []:=aW.o.trans aq;obtain⟨I,N⟩:∃I:Nat->Prop,I=fun k=>F k\/(wb.heap.size<=k/\k<wr.heap.size):=⟨_,rfl⟩
        have aF:C3 wr I T b sv l vs:=by
         subst N;refine C.o.grown aq (fun k f=> .inl f) (fun k f=>f.imp_right And.left) (fun k f=> ?_);rcases f with f|f
         .have:=C.o.lt k f;have:=aq.size;omega
         .exact f.2
        have bg:Af wr I (D1 ks (l.drop (vs.length-ks.length))) (nF 142 (nP (nM ⟨o,0,nN⟩))):=by
         have h7:AK wr (nS n ks.length v) 9 (Ad (AY ks)):=an.o.kept B.o (by
          intro g d K;simp at K;subst K
          exact aB.o (by simp[d]))
         unfold D1;simp only[Af];have e:=bq;unfold D1 at e;rw[e];refine⟨o,nS n ks.length v,E,Kv ks (vs.drop (vs.length-ks.length)),rfl,by subst N;exact .inr ⟨aI,lo⟩,by rw[A3,DD],p0,p1,p2,p3,h7.rowAt ?_,p4, ?_, ?_⟩
         .intro g d;subst N;have L:=bx.o g d;have h2:=h7.lt d;exact .inr ⟨L,h2⟩
         .have:=a1.o;rw[Qn (by rw[EP];omega)]at this;refine this.rowAt fun g d=> ?_;subst N;have L:=ao.o g d;have h2:=this.lt d;have h3:=al.o.size;exact .inr ⟨Zj,h2⟩
         .exact Mx (by rw[aL]) (aF.items.drop _)
        have bE:=hZ aF;have aZ:=hZ bg;have aV:=hZ bd;have aX:=hZ N;have aC:=hZ bv;obtain⟨a5,c5,e5,_⟩:=am.o.form;rw[be]at e5;subst e5;clear aL be bv bq aq aF bg bd N;by_cases hw:(Ag (D1 ks (l.drop (vs.length-ks.length)))).within=true
        .have Y:=hZ hw;clear hw
         go_wp2_with(first
          |(go_at_call 71;go_loud(refine(I0 I T _ _ b sv l vs ks.length _ bE.o aZ.o Y.o hn hl).mono ?_;rintro e w9 ⟨rfl,hP⟩)))
         go_end0
         refine⟨fun _=> ?_,fun h=>absurd ⟨HR.o,a2.o,hn,by rw[aC.o];exact Y.o⟩ h⟩;rw[aC.o];refine⟨rfl,I,fun k f=>by rw[aX.o];exact .inl f,fun k f ck=> ?_,hP.after aV.o⟩;rw[aX.o]at f;rcases f with f|f
         .exact f
         .have:=aW.o.size;omega
        .have Y:=UD ((Ag (D1 ks (l.drop (vs.length-ks.length)))).within=false) (by simpa using hw);clear hw
         go_wp2_with(first
          |(go_at_call 71;go_loud(refine(IZ I _ _ b ks.length _ aZ.o Y.o).mono ?_;rintro e w9 ⟨rfl,bP⟩)))
         exact⟨rfl,fun h=>absurd h.2.2.2 (by rw[aC.o,Y.o];simp),fun _=>⟨⟨3,rfl⟩,aV.o.trans bP⟩⟩
end
section
open Go Go.RowKit Tree
variable{l:List Tr}{xs:List Vl}{b g n sz:Nat}{F:Nat->Prop}{T e:Ti}{sv:Vl}{w w':Wl}
def Cx(F:Nat->Prop)(T:Ti)(b:Nat)(sv:Vl)(l:List Tr)(w:Wl)(e:Ending)(w':Wl):Prop:=
 e= nR .nilIface/\∃a c d,(∀k,F k->a k)/\(∀k,a k->k<w.heap.size->F k)/\C3 w' a T b c l d/\Chg w w' (b::sv.ownBlock.toList)/\∀g,c.ownBlock=nM g->sv.ownBlock=nM g\/w.heap.size<=g
def Fc(w:Wl)(e:Ending)(w':Wl):Prop:=(∃n:Int,e= nR (nF 70 (nI nX n)))/\Chg w w' []
theorem C3.set{vs:List Vl}(h:C3 w F T b sv l vs)(p:Addr)(v:Vl)(e:p.block≠b)(m:∀g,sv.ownBlock=nM g->g≠p.block)(d:¬F p.block):
  C3 (w.setCell p v) F T b sv l vs:=by
 have c:Chg w (w.setCell p v) [p.block]:=(Chg.refl _ _).setCell _ _ Zh
 exact⟨h.blk.set_other _ _ e,h.lst.kept c fun g i j=>m g i (by simpa using j),Ak.kept (c.keepsF h.lt fun k a f=>d (by simp at a;subst a;exact f)) (fun _ h=>h) l vs h.items,h.apart,h.apart',
  fun k a=>Q6 (h.lt k a) c.size⟩
theorem DA{a:Nat->Prop}{d w2:Wl}(c:Chg w d [])(f:FZ a T b sv l d w2)(j:∀k,F k->a k)(m:∀k,a k->k<w.heap.size->F k)(s:b<w.heap.size)(o:∀g,sv.ownBlock=nM g->g<w.heap.size)(k:Nat)(t:w.heap.size<=k)(u:k<d.heap.size)(p:¬a k)(v:Vl):Cx F T b sv l w (nR .nilIface) (w2.setCell ⟨k,0,nN⟩ v):=by
 obtain⟨q,r,n,i,e⟩:=f;refine⟨rfl,a,q,r,j,m,n.set _ _ zR (fun g h=> ?_) p,((c.none _).trans i).setCell _ _ zR,fun g h=>(e g h).imp id fun h=>Q7 c.size h⟩;have:=c.size;rcases e g h with h|h
 .have:=o g h;simp;omega
 .simp;omega
theorem FZ.chg(h:FZ F T b sv l w w'):Chg w w' (b::sv.ownBlock.toList):=by
 obtain⟨_,_,_,h,_⟩:=h;exact h
def Cg(n:Nat):Nat:=if Fl.A7 n=0 then 0 else n
def Hs(b:Nat):Prop:=b<18446744073709551616/\Fl.Fh b=true/\Cg b=b
theorem Cx.after{i:Wl}{e:Ending}(f:Chg w i [])(h:Cx F T b sv l i e w'):Cx F T b sv l w e w':=by
 obtain⟨m,j,q,r,a,c,d,g,n⟩:=h;exact⟨m,j,q,r,a,fun k o p=>c k o (Q6 p f.size),d,(f.none _).trans g,fun g h=>(n g h).imp id fun h=>Q7 f.size h⟩
def CG(w:Wl)(F:Nat->Prop)(a:Nat)(t:Tr):Prop:=∃v,w.cell? ⟨a,0,nN⟩=nM v/\Af w F t v/\a<w.heap.size
def JN:Tr->List BY
 | .obj ks _=>ks
 |_=>[]
def Ab:Tr->List Tr
 | .list l=>l
 | .obj _ l=>l
 |_=>[]
theorem Ax.empty(w:Wl)(F:Nat->Prop):Ax w F (nS nN 0 0) []:= .inl ⟨rfl,nN,0,rfl⟩
def Ba(w:Wl)(sv:Vl)(e:Ti)(sz n:Nat)(xs:List Vl):Prop:=w.ownsRow 0 e sz sv n xs
theorem Ba.nil(w:Wl)(e:Ti)(sz:Nat):Ba w (nS nN 0 0) e sz 0 []:=World.ownsRow_nil w 0 e sz
theorem Ba.kept{bs:List Nat}(h:Ba w sv e sz n xs)(j:Chg w w' bs)(k:∀g,sv.ownBlock=nM g->g∉bs:=by simp):Ba w' sv e sz n xs:=by
 obtain⟨f,a⟩:=h;refine⟨f, ?_⟩;rcases a with a|⟨g,cap,d,c,i,b,r⟩
 .exact .inl a
 .refine .inr ⟨g,cap,d,c,i, ?_,r⟩;rw[j.block g (Array.getElem?_eq_some_iff.1 b).1 (k g (by subst c;rfl))];exact b
theorem Ba.form(h:Ba w sv e sz n xs):∃a cap,sv= nS a n cap/\(0<n->∃g,a=nM ⟨g,0,nN⟩):=by
 rcases h.2 with⟨b,c⟩|⟨g,cap,f,d,_⟩
 .exact⟨nN,0,by rw[b,c],fun i=>Zj⟩
 .exact⟨_,cap,d,fun _=>⟨g,rfl⟩⟩
theorem Ba.cell(h:Ba w sv e sz n xs)(a:sv.ownBlock=nM g)(i:Nat)(v:Vl)(b:xs[i]? =nM v):w.cell? ⟨g,i,nN⟩=nM v:=by
 have:=World.ownsRow.cells h a i v b;rwa[show(⟨g,0,nN⟩:Addr).add i=⟨g,i,nN⟩from by unfold Addr.add;split<;>simp_all]at this
theorem Ba.lt(h:Ba w sv e sz n xs)(a:sv.ownBlock=nM g):g<w.heap.size:=(World.ownsRow.lt h g a).2
theorem AK.toK(h:AK w sv e xs):Ba w sv e 1 xs.length xs:=h
theorem Bg{P:Program}{f:Array Oper}{rest:List Oper}{o:Oper}{a:Act}{Q:Exit->Act->Wl->Prop}(y:o.guard=nN)(s x:Operand)(t:Ti)(E:o.op= .call {callee:= .builtin .append,args:=#[s,x],argTypes:=#[t,t]})(e:Ti)(z:Vl)(sz c:Nat)(I:0<sz)(L:P.underlying t=nM (.slice e))(A:(P.info? e).map (fun i=>(i.zero,i.size,i.bytes))=nM (nM z,sz,c))(U:z.cells.size=sz)(sv:Vl)(n:Nat)(xs:List Vl)(H:a.eval s=sv)(F:Ba w sv e sz n xs)(B:Nat)(us:List Vl)(S:a.eval x= nS (nM ⟨B,0,nN⟩) 1 1)(O:us.length=sz)(M:∀j v,us[j]? =nM v->w.cell? ⟨B,j,nN⟩=nM v)(N:∀u∈us,u.oneCell'=true)(d:(n+1)*c<=140737488355328)(W:n<=140737488355328)(h:∀g cap w',Ba w' (nS (nM ⟨g,0,nN⟩) (n+1) cap) e sz (n+1) (xs++us)->Chg w w' sv.ownBlock.toList->(sv.ownBlock=nM g\/g=w.heap.size)->
   wpList P f Q rest (a.put o.dst (nS (nM ⟨g,0,nN⟩) (n+1) cap)) w'):wpList P f Q (o::rest) a w:=by
 obtain⟨i,hi,T,J,q⟩:=info_parts A
 have D:∀j v,us[j]? =nM v->w.cell? ((⟨B,0,nN⟩:Addr).add j)=nM v:=fun j v R=>by
  rw[show(⟨B,0,nN⟩:Addr).add j=⟨B,j,nN⟩from by unfold Addr.add;split<;>simp_all];exact M j v R
 obtain⟨g,cap,w',G,l,b,m,V⟩:=run_append_lies (P:=P) w t o.type 0 e i z sz c L hi T J q U I sv n xs F ⟨B,0,nN⟩ 1 1 us (by rw[O,Nat.one_mul]) D N ZM zP d (Nat.zero_le _) _ rfl;refine wpList_plain y fun K p=> ?_;unfold Oper.wp execOp;simp only[E,resolve,invoke,builtin,Sem.run_bind,Sem.run_pure,Result.andThen_ok,List.map_toArray,List.map_cons,List.map_nil,H,S,G];exact p _ _ (h g cap w' l ⟨b.os,b.tape,b.output,b.size,fun k C d=>b.block k C fun r=>d (by rw[<-r];simp)⟩ m)
structure Aw where
 sort:Nat
 flag:Bool
 bits:Nat
 text:BY
 count:Nat
 keys:List BY
def Dz:BY:=⟨#[]⟩
def Aa:Tr->Aw
 | .null=>⟨1,false,0,Dz,0,[]⟩
 | .flag b=>⟨2,b,0,Dz,0,[]⟩
 | .num n=>⟨3,false,n,Dz,0,[]⟩
 | .text s=>⟨4,false,0,s,0,[]⟩
 | .list l=>⟨5,false,0,Dz,l.length,[]⟩
 | .obj ks _=>⟨6,false,0,Dz,0,ks⟩
mutual
def Ai:Tr->List Aw
 | .null=>[Aa .null]
 | .flag b=>[Aa (.flag b)]
 | .num n=>[Aa (.num n)]
 | .text s=>[Aa (.text s)]
 | .list l=>BI l++[Aa (.list l)]
 | .obj ks l=>BI l++[Aa (.obj ks l)]
def BI:List Tr->List Aw
 |[]=>[]
 |t::l=>Ai t++BI l
end
theorem Ea(t:Tr):Ai t=BI (Ab t)++[Aa t]:=by
 cases t<;>simp[Ai,Ab,BI]
theorem NN(l m:List Tr):BI (l++m)=BI l++BI m:=by
 induction l with
 |nil=>simp[BI]
 |cons t l a=>simp[BI,a]
theorem EA{l:List Tr}{k:Nat}{t:Tr}(h:l[k]? =nM t):BI (l.take (k+1))=BI (l.take k)++Ai t:=by
 rw[List.take_add_one,h,NN];simp[BI]
mutual
theorem BL:∀t:Tr,(Ai t).length=(Ag t).nodes
 | .null=>by simp[Ai,Ag]
 | .flag _=>by simp[Ai,Ag]
 | .num _=>by simp[Ai,Ag]
 | .text _=>by simp[Ai,Ag]
 | .list l=>by simp[Ai,Ag,Sz.over,CS l];omega
 | .obj ks l=>by simp[Ai,Ag,Sz.over,CS l];omega
theorem CS:∀l:List Tr,(BI l).length=(Bk l).nodes
 |[]=>by simp[BI,Bk]
 |t::l=>by simp[BI,Bk,Sz.add,BL t,CS l]
end
variable{F:Nat->Prop}{w:Wl}
theorem Cv(t:Tr):1<=(Ag t).nodes:=by
 rw[<-BL,Ea];simp
theorem Bj(t:Tr):(Ab t).length<(Ag t).nodes:=by
 have h:∀l:List Tr,l.length<=(Bk l).nodes:=by
  intro l;induction l with
  |nil=>simp
  |cons t l a=>simp only[Bk,Sz.add,Qj];have:=Cv t;omega
 have:=h (Ab t);rw[<-CS]at this;rw[<-BL,Ea];simp;omega
theorem CO{t u:Tr}{k:Nat}(h:(Ab t)[k]? =nM u):(Ag u).nodes<(Ag t).nodes:=by
 have a:∀(l:List Tr) (k:Nat),l[k]? =nM u->(Ag u).nodes<=(Bk l).nodes:=by
  intro l;induction l with
  |nil=>intro k h;simp at h
  |cons x l b=>
   intro k h;simp only[Bk,Sz.add];cases k with
   |zero=>simp at h;subst h;omega
   |succ k=>have:=b k (by simpa using h);omega
 have:=a _ _ h;rw[<-CS]at this;rw[<-BL t,Ea];simp;omega
def Ci(s:Aw)(sk:Vl):List Vl:=[nI nX s.sort,.bool s.flag,nI .u64 s.bits,nG s.text,nI nX s.count,sk]
def AR(w:Wl)(F:Nat->Prop):List Aw->List Vl->Prop
 |[],xs=>xs=[]
 |s::l,xs=>∃sk r,xs=Ci s sk++r/\Ax w F sk (Ad s.keys)/\AR w F l r
theorem AR.kept{w':Wl}{G:Nat->Prop}(c:BZ F w w')(a:∀b,F b->G b):∀(l:List Aw) (xs:List Vl),AR w F l xs->AR w' G l xs
 |[],_,h=>h
 |s::l,_,⟨sk,r,d,e,f⟩=>⟨sk,r,d,e.kept c a,AR.kept c a l r f⟩
theorem AR.append:∀{l m:List Aw} {xs ys:List Vl},AR w F l xs->AR w F m ys->AR w F (l++m) (xs++ys)
 |[],_,_,_,h,k=>by unfold AR at h;subst h;exact k
 |s::l,_,_,_,⟨sk,r,a,b,c⟩,k=>⟨sk,r++_,by rw[a,List.append_assoc],b,c.append k⟩
theorem AR.one(s:Aw)(sk:Vl)(h:Ax w F sk (Ad s.keys)):AR w F [s] (Ci s sk):=⟨sk,[],Zh,h,rfl⟩
theorem AR.length:∀{l:List Aw} {xs:List Vl},AR w F l xs->xs.length=6*l.length
 |[],_,h=>by unfold AR at h;subst h;rfl
 |s::l,_,⟨sk,r,a,_,b⟩=>by subst a;have:=b.length;simp[Ci];omega
theorem AR.get:∀{l:List Aw} {xs:List Vl},AR w F l xs->∀(i:Nat) (s:Aw),l[i]? =nM s->∃sk,Ax w F sk (Ad s.keys)/\∀j v,(Ci s sk)[j]? =nM v->xs[6*i+j]? =nM v
 |[],_,_,i,s,a=>by simp at a
 |k::l,_,⟨sk,r,c,d,e⟩,i,s,a=>by
  subst c;cases i with
  |zero=>
   simp at a;subst a;refine⟨sk,d,fun j v b=> ?_⟩;have f:j<(Ci k sk).length:=(Qc.1 b).1;rw[Nat.mul_zero,Nat.zero_add,List.getElem?_append_left f,b]
  |succ i=>
   obtain⟨m,g,h⟩:=e.get i s (by simpa using a);refine⟨m,g,fun j v b=> ?_⟩;rw[List.getElem?_append_right (by simp[Ci];omega),<-h j v b]
   congr 1
   simp[Ci];omega
theorem Ao(ks:List BY):(Ad ks).length=ks.length:=by simp[Ad]
theorem Gu(ks:List BY):∀u∈Ad ks,u.oneCell'=true:=by
 intro u a;obtain⟨k,_,rfl⟩:=List.mem_map.1 a;rfl
theorem AK.toRow{sv:Vl}{e:Ti}{xs:List Vl}(h:AK w sv e xs):Ax w (fun b=>sv.ownBlock=nM b) sv xs:=by
 obtain⟨a,c,rfl,f⟩:=h.form;by_cases d:xs=[]
 .subst d;exact .inl ⟨rfl,a,c,rfl⟩
 .obtain⟨g,rfl⟩:=f d;exact .inr ⟨g,0,c,rfl,rfl,fun i v j=>by rw[Nat.zero_add];exact h.cell rfl i v j⟩
theorem IF(s:Aw)(sk:Vl)(a:Option Addr)(n c:Nat)(h:sk= nS a n c):∀u∈Ci s sk,u.oneCell'=true:=by
 subst h;intro u b;simp only[Ci,Qh,List.not_mem_nil,or_false]at b;rcases b with rfl|rfl|rfl|rfl|rfl|rfl<;>rfl
end
section
open Go Go.RowKit
variable{a:Act}{Q:Exit->Act->Wl->Prop}{rest:List Oper}{o:Oper}{P:Program}{w:Wl}
theorem Er{p:Array Oper}(D:o.guard=nN)(s x:Operand)(t:Ti)(I:o.op= .call {callee:= .builtin .append,args:=#[s,x],argTypes:=#[t,t]})(e:Ti)(z:Vl)(sz f:Nat)(N:0<sz)(R:P.underlying t=nM (.slice e))(E:(P.info? e).map (fun i=>(i.zero,i.size,i.bytes))=nM (nM z,sz,f))(Y:z.cells.size=sz)(sv:Vl)(n:Nat)(xs:List Vl)(M:a.eval s=sv)(J:Ba w sv e sz n xs)(B b m c:Nat)(us:List Vl)(W:a.eval x= nS (nM ⟨B,b,nN⟩) m c)(G:0<m)(U:us.length=m*sz)(S:∀j v,us[j]? =nM v->w.cell? ⟨B,b+j,nN⟩=nM v)(T:∀u∈us,u.oneCell'=true)(l:(n+m)*f<=140737488355328)(aa:n+m<=140737488355328)(h:∀g cap w',Ba w' (nS (nM ⟨g,0,nN⟩) (n+m) cap) e sz (n+m) (xs++us)->Chg w w' sv.ownBlock.toList->(sv.ownBlock=nM g\/g=w.heap.size)->
   wpList P p Q rest (a.put o.dst (nS (nM ⟨g,0,nN⟩) (n+m) cap)) w'):wpList P p Q (o::rest) a w:=by
 obtain⟨i,hi,X,O,A⟩:=info_parts E
 have H:∀j v,us[j]? =nM v->w.cell? ((⟨B,b,nN⟩:Addr).add j)=nM v:=fun j v V=>by
  rw[show(⟨B,b,nN⟩:Addr).add j=⟨B,b+j,nN⟩from by unfold Addr.add;split<;>simp_all];exact S j v V
 obtain⟨g,cap,w',L,q,d,r,Z⟩:=run_append_lies (P:=P) w t o.type 0 e i z sz f R hi X O A Y N sv n xs J ⟨B,b,nN⟩ m c us U H T G zP l (Nat.zero_le _) _ rfl;refine wpList_plain D fun K y=> ?_;unfold Oper.wp execOp;simp only[I,resolve,invoke,builtin,Sem.run_bind,Sem.run_pure,Result.andThen_ok,List.map_toArray,List.map_cons,List.map_nil,M,W,L];exact y _ _ (h g cap w' q ⟨d.os,d.tape,d.output,d.size,fun k F l=>d.block k F fun C=>l (by rw[<-C];simp)⟩ r)
theorem Ip{f:Array Oper}(p:o.guard=nN)(s x:Operand)(t:Ti)(C:o.op= .call {callee:= .builtin .append,args:=#[s,x],argTypes:=#[t,t]})(e:Ti)(z:Vl)(b:Nat)(F:P.underlying t=nM (.slice e))(q:(P.info? e).map (fun i=>(i.zero,i.size,i.bytes))=nM (nM z,1,b))(K:z.cells.size=1)(sv:Vl)(xs:List Vl)(E:a.eval s=sv)(D:AK w sv e xs)(B d m c:Nat)(us:List Vl)(J:a.eval x= nS (nM ⟨B,d,nN⟩) m c)(r:0<m)(I:us.length=m)(G:∀j v,us[j]? =nM v->w.cell? ⟨B,d+j,nN⟩=nM v)(H:∀u∈us,u.oneCell'=true)(y:(xs.length+m)*b<=140737488355328)(A:xs.length+m<=140737488355328)(h:∀g cap w',AK w' (nS (nM ⟨g,0,nN⟩) (xs.length+m) cap) e (xs++us)->Chg w w' sv.ownBlock.toList->(sv.ownBlock=nM g\/g=w.heap.size)->
   wpList P f Q rest (a.put o.dst (nS (nM ⟨g,0,nN⟩) (xs.length+m) cap)) w'):wpList P f Q (o::rest) a w:=
 Er p s x t C e z 1 b ZM F q K sv xs.length xs E D.toK B d m c us J r Zj G H y A fun g cap w' k l n=>
  h g cap w' (by unfold AK;rw[Qk,I];exact k) l n
end
section
open _root_.Go.Proofs.Tryz
open Go Go.RowKit
variable{s:BY}{U:List Nat}{i x:Nat}{p:Prop}
def Gv(l:List Nat):List Vl:=l.map fun(n:Nat)=>Vl.int .u16 n
theorem Ll(l m:List Nat):Gv (l++m)=Gv l++Gv m:=by simp[Gv]
theorem UN(w:Wl)(cs:List Vl)(T:Ti):∀j v,cs[j]? =nM v->(w.alloc (nC cs.toArray T)).cell? ⟨w.heap.size,0+j,nN⟩=nM v:=fun j v a=>by
 rw[(Ac.new w cs T).cell,Nat.zero_add,a]
theorem OF{L:List Int}(h:Utf.Sb s=nM L):L.length<=s.size:=by have:=MS _ _ _ h;omega
theorem T4(r:Nat):(Utf.Be r).length<=2:=by unfold Utf.Be;split<;>simp
theorem ON(l:List Nat):(l.flatMap Utf.Be).length<=2*l.length:=by
 induction l with
 |nil=>simp
 |cons x l a=>have:=T4 x;simp only[List.flatMap_cons,Qk,Qj];omega
theorem zM(h:p:=by
 go_roundw
 case rel=>
  have z1:=c.o.size;refine⟨i+1,Zj,by go_num,by rw[j.o];exact G.o,Chg.own (sv:= nS nN 0 0) (by exact cg c.o) D.o (fun g a=>by cases a) (fun g a=> .inr (k.o g a)),fun g' q=> ?_⟩;simp[Vl.ownBlock]at q;subst q;rcases E.o with h|h
  .exact k.o _ h
  .simp at h;omega
 case measure=>simp[intOf];omega):p:=h
theorem zS(h:p:=by exact O.o.kept (bs:=[]) (by exact cg cR) Zh):p:=h
theorem RU(s:BY)(w:Wl)(hs:s.size<=2147483648)(b:Utf.Al s=true):
  Cl prog 189 #[nG s] w fun e w'=>(∃v,e= nR v/\AK w' v 294 (Gv (Utf.Fq s))/\∀g,v.ownBlock=nM g->w.heap.size<=g)/\Chg w w' []:=by
 obtain⟨m,z,S,_⟩:=Utf.FU b;have ah:m.length<=s.size:=by have:=OF z;simpa using this
 have X:Utf.Fq s=m.flatMap Utf.Be:=by unfold Utf.Fq;rw[z];simp[List.flatMap_map]
 rw[X];have HM:=hZ z;have Z:=hZ S;have M:Hid ((L3 (m.map Int.ofNat)).length=m.length):=by unfold Hid L3;simp
 clear z S b X;go_enter func189,ntmps189;go_wp2_with(first|(go_at_call 211;refine(XC s _ _ hs HM.o).mono ?_;rintro e K ⟨⟨v,u,rfl,x,I⟩,T⟩;obtain⟨a1,c1,rfl,_⟩:=x.form;rw[M.o]at x I|-));have N:=hZ x;have HO:=hZ I;have L:=hZ T;clear x I T;go_loopw [3,6] (fun Y J wr=>∃i:Nat,i<=m.length/\J= nI nX i/\AK wr Y 294 (Gv ((m.take i).flatMap Utf.Be))/\Chg K wr []/\∀g,Y.ownBlock=nM g->K.heap.size<=g) (fun _ J _=>m.length-(intOf J).toNat)
 case atStart=>exact⟨0,Zj,rfl,AK.nil _ _,Chg.refl _ _,fun g a=>(by cases a)⟩
 case round=>
  obtain⟨C,rfl⟩:=Ue wr;obtain⟨i,hi,rfl,Q,a,U⟩:=hrel;have F:=hZ Q;have c:=hZ a;have k:=hZ U;clear Q a U;by_cases ae:i<m.length
  .obtain⟨r,b⟩:∃r,m[i]? =nM r:=⟨_,Q9 ae⟩;have V:r<1114112:=Z.o r (List.mem_iff_getElem?.2 ⟨i,b⟩)
   have y:∃d,a1=nM ⟨d,0,nN⟩/\C.cell? ⟨d,i,nN⟩=nM (nI .i32 r):=by
    obtain⟨a',c',e',ad⟩:=N.o.form;injection e' with e1 _ e3
    subst e1;obtain⟨d,rfl⟩:=ad (by intro h0;have P:=M.o;rw[h0]at P;simp at P;omega);have hc:K.cell? ⟨d,i,nN⟩=nM (nI .i32 r):=N.o.cell rfl i _ (by simp[L3,b]);exact⟨d,rfl,c.o.keeps hc⟩
   obtain⟨d,rfl,y⟩:=y
   have A:(m.take (i+1)).flatMap Utf.Be=(m.take i).flatMap Utf.Be++Utf.Be r:=by
    rw[List.take_add_one,b,List.flatMap_append];simp
   have af:(Gv ((m.take i).flatMap Utf.Be)).length<=2*i:=by
    have:=ON (m.take i);rw[Ql]at this;simp only[Gv,List.length_map];omega
   obtain⟨us,f⟩:=Ue (Gv ((m.take i).flatMap Utf.Be));have O:Hid (AK C u3 294 us):=by rw[f];exact F.o
   rw[<-f]at af;by_cases B:r<65536
   .have t:Gv ((m.take (i+1)).flatMap Utf.Be)=us++[nI .u16 r]:=by
     rw[A,Ll,<-f];simp[Utf.Be,Gv,B]
    have j:=hZ t;have H:(r:Int)<65536:=Zj;obtain⟨R,p⟩:=Ue ((r:Int):Int);have ag:0<=R:=Zj;rw[<-p]at H y j;clear A t f b B V p
    go_wp2_with(first
     |(at_builtin;refine AM rfl _ _ _ rfl 294 (nI .u16 0) 2 underlying292 QQ rfl u3 us ZN zS C.heap.size (nI .u16 R) ZN (by exact Bx Zh _ _) rfl Zj Zj ?_;intro g aa w3 o l n;have G:=hZ o;have D:=hZ l;have E:=hZ n;clear o l n))
    exact zM
   .have t:Gv ((m.take (i+1)).flatMap Utf.Be)=us++[nI .u16 (55296+((r:Int)-65536)/1024),nI .u16 (56320+((r:Int)-65536) % 1024)]:=by
     rw[A,Ll,<-f];simp[Utf.Be,Gv,B];omega
    have j:=hZ t;have ab:65536<=(r:Int):=Zj;have H:(r:Int)<1114112:=Zj;obtain⟨R,p⟩:=Ue ((r:Int):Int);rw[<-p]at ab H y j;clear A t f b B V p
    go_wp2_with(first
     |(at_builtin;go_loud(refine Ip rfl _ _ _ rfl 294 (nI .u16 0) 2 underlying292 QQ rfl u3 us ZN zS C.heap.size 0 2 2 [nI .u16 (55296+(R-65536)/1024),nI .u16 (56320+(R-65536) % 1024)] ZN ZM rfl (by exact UN _ _ _) (by intro u W;simp at W;rcases W with rfl|rfl<;>rfl) Zj Zj ?_;intro g aa w3 o l n;have G:=hZ o;have D:=hZ l;have E:=hZ n;clear o l n)))
    exact zM
  .obtain rfl:i=m.length:=by omega
   rw[Qn (Q8 _)]at F;go_wp2;go_ret;exact⟨⟨_,rfl,F.o,fun g a=>Q7 L.o.size (k.o g a)⟩,L.o.trans c.o⟩
theorem Ss{w:Wl}{a:Option Addr}{n c:Nat}(h:AK w (nS a n c) 294 (Gv U))(d:U[i]? =nM x):∃g,a=nM ⟨g,0,nN⟩/\w.cell? ⟨g,i,nN⟩=nM (nI .u16 x):=by
 obtain⟨m,o,e,l⟩:=h.form;injection e with f _ p
 subst f;obtain⟨j,rfl⟩:=l (by intro k;have b:=congrArg List.length k;simp[Gv]at b;subst b;simp at d);exact⟨j,rfl,h.cell rfl i _ (by simp[Gv,d])⟩
theorem Nc(h:Utf.Al s=true):(Utf.Fq s).length<=2*s.size:=by
 obtain⟨m,a,c,_⟩:=Utf.FU h;have d:m.length<=s.size:=by have:=OF a;simpa using this
 have b:Utf.Fq s=m.flatMap Utf.Be:=by unfold Utf.Fq;rw[a];simp[List.flatMap_map]
 rw[b];have:=ON m;omega
theorem JG(h:U[i]? =nM x):U.drop i=x::U.drop (i+1):=by
 obtain⟨a,b⟩:=Qc.1 h;rw[List.drop_eq_getElem_cons a,b]
theorem zO(h:p:=by go_ret;exact⟨E5 d.o,l.o.trans (by exact cg f.o)⟩):p:=h
theorem MN(a b:BY)(w:Wl)(B:a.size<=2147483648)(C:b.size<=2147483648)(j:Utf.Al a=true)(k:Utf.Al b=true):
  Cl prog 154 #[nG a,nG b] w fun e w'=>e= nR (nI nX (Utf.BK a b))/\Chg w w' []:=by
 have q:=Utf.VZ j k;have I:=Nc j;have J:=Nc k;have Y:=hZ j;have Z:=hZ k;have R:Hid (∀w,Cl prog 90 #[nG a] w fun e w'=>e= nR (.bool true)/\w=w'):=fun w=>by have:=Ii a w B;rw[j]at this;exact this
 have S:Hid (∀w,Cl prog 90 #[nG b] w fun e w'=>e= nR (.bool true)/\w=w'):=fun w=>by have:=Ii b w C;rw[k]at this;exact this
 have u:=hZ fun w=>RU a w B j;have v:=hZ fun w=>RU b w C k;obtain⟨U,z⟩:=Ue (Utf.Fq a);obtain⟨V,A⟩:=Ue (Utf.Fq b);rw[<-z]at q I u;rw[<-A]at q J v;have L:=hZ q;have aa:U.length<=4294967296:=Zj;have ab:V.length<=4294967296:=Zj;clear q z A j k I J;have T:Hid ((Gv U).length=U.length):=by unfold Hid Gv;simp
 have W:Hid ((Gv V).length=V.length):=by unfold Hid Gv;simp
 go_enter func154,ntmps154
 go_wp2_with(first
  |(go_at_call_of 90 (Vl.string a);refine(R.o _).mono ?_;rintro e K ⟨rfl,rfl⟩)
  |(go_at_call 90;refine(S.o _).mono ?_;rintro e K ⟨rfl,rfl⟩)
  |(go_at_call_of 189 (Vl.string a);refine(u.o _).mono ?_;rintro e K ⟨⟨v1,rfl,o,G⟩,F⟩;obtain⟨a1,c1,rfl,_⟩:=o.form;rw[T.o]at o G|-;have O:=hZ o;have M:=hZ F;clear o G F)
  |(go_at_call 189;refine(v.o _).mono ?_;rintro e w2 ⟨⟨v2,rfl,p,H⟩,r⟩;obtain⟨a2,c2,rfl,_⟩:=p.form;rw[W.o]at p H|-;have Q:=hZ p;have N:=hZ r;have P:=hZ (O.o.kept r);clear p H r))
 have l:=hZ (M.o.trans N.o);go_loopw [9] (fun t wr=>∃i:Nat,i<=U.length/\i<=V.length/\t= nI nX i/\Chg w2 wr []/\Utf.Fu (U.drop i) (V.drop i)=Utf.BK a b) (fun t _=>U.length-(intOf t).toNat)
 case atStart=>exact⟨0,Zj,Zj,rfl,Chg.refl _ _,L.o⟩
 case round=>
  obtain⟨i,h1,h2,rfl,E,D⟩:=hrel;have f:=hZ E;clear E;have n:=hZ D;clear D;by_cases X:i<U.length
  .obtain⟨x,m⟩:∃x,U[i]? =nM x:=⟨_,Q9 X⟩;obtain⟨g1,rfl,cx⟩:=Ss (P.o.kept f.o) m;by_cases s:i<V.length
   .obtain⟨y,g⟩:∃y,V[i]? =nM y:=⟨_,Q9 s⟩;obtain⟨g2,rfl,cy⟩:=Ss (Q.o.kept f.o) g;have c:=n.o;rw[JG m,JG g,Utf.Fu]at c;clear m g;rcases Nat.lt_trichotomy x y with h|h|h
    .rw[Qs Zj,Qr h]at c;have d:=hZ c;clear c;go_wp2;all_goals(try (go_quiet(fail);go_wp2))
     exact zO
    .subst h;rw[Qr rfl]at c;have d:=hZ c;clear c;go_wp2;all_goals(try (go_quiet(fail);go_wp2))
     all_goals(try (go_quiet(fail);go_wp2))
     go_roundw
     case rel=>exact⟨i+1,Zj,Zj,by go_num,by exact cg f.o,d.o⟩
     case measure=>simp[intOf];omega
    .rw[Qs Zj,Qs Zj]at c;have d:=hZ c;clear c;go_wp2;all_goals(try (go_quiet(fail);go_wp2))
     all_goals(try (go_quiet(fail);go_wp2))
     exact zO
   .have c:=n.o;rw[JG m,List.drop_of_length_le (by omega:V.length<=i),Utf.Fu]at c;have d:=hZ c;clear c m;go_wp2;exact zO
  .by_cases s:i<V.length
   .obtain⟨y,g⟩:∃y,V[i]? =nM y:=⟨_,Q9 s⟩;have c:=n.o;rw[JG g,List.drop_of_length_le (by omega:U.length<=i),Utf.Fu]at c;have d:=hZ c;clear c g;go_wp2;exact zO
   .have c:=n.o;rw[List.drop_of_length_le (by omega:V.length<=i),List.drop_of_length_le (by omega:U.length<=i),Utf.Fu]at c;have d:=hZ c;clear c;go_wp2;exact zO
end
section
open _root_.Go.Proofs.Tryz
open Go Go.RowKit Tree
def We(F:Nat->Prop)(t:Tr)(w:Wl)(e:Ending)(w':Wl):Prop:=∃sk,e= nR sk/\Ax w' F sk (Ad (JN t))/\Chg w w' []
theorem RY(F:Nat->Prop)(t:Tr)(v:Vl)(w:Wl)(a:Af w F t v)(c:∀k,F k->k<w.heap.size):
  Cl prog 52 #[nA #[v]] w (We F t w):=by
 have j:∀(s:BY) (w:Wl),(Instr.typeAssert (nF 166 (nG s)) 86 142 true).run prog w= .ok (nT #[nP nN,.bool false]) w:=fun _ _=>Yb;have m:∀(w:Wl),(Instr.typeAssert (nF 159 (nA #[])) 86 142 true).run prog w= .ok (nT #[nP nN,.bool false]) w:=fun _=>Yb;have n:∀(s:Bool) (w:Wl),(Instr.typeAssert (nF 160 (.bool s)) 86 142 true).run prog w= .ok (nT #[nP nN,.bool false]) w:=fun _ _=>Yb;have o:∀(s:Nat) (w:Wl),(Instr.typeAssert (nF 164 (.float .f64 s)) 86 142 true).run prog w= .ok (nT #[nP nN,.bool false]) w:=fun _ _=>Yb;have p:∀(s:Option Addr) (w:Wl),(Instr.typeAssert (nF 141 (nP s)) 86 142 true).run prog w= .ok (nT #[nP nN,.bool false]) w:=fun _ _=>Yb;have q:∀(s:Option Addr) (w:Wl),(Instr.typeAssert (nF 142 (nP s)) 86 142 true).run prog w= .ok (nT #[nP s,.bool true]) w:=fun _ _=>Yb;cases t with
 |null=>simp only[Af]at a;subst a;go_enter func52,ntmps52;go_wp2;go_ret;exact⟨_,rfl,Ax.empty _ _,by exact cg cR⟩
 |flag b=>simp only[Af]at a;subst a;go_enter func52,ntmps52;go_wp2;go_ret;exact⟨_,rfl,Ax.empty _ _,by exact cg cR⟩
 |num b=>simp only[Af]at a;subst a;go_enter func52,ntmps52;go_wp2;go_ret;exact⟨_,rfl,Ax.empty _ _,by exact cg cR⟩
 |text b=>simp only[Af]at a;subst a;go_enter func52,ntmps52;go_wp2;go_ret;exact⟨_,rfl,Ax.empty _ _,by exact cg cR⟩
 |list l=>simp only[Af]at a;obtain⟨b,i,vs,rfl,_⟩:=a;go_enter func52,ntmps52;go_wp2;go_ret;exact⟨_,rfl,Ax.empty _ _,by exact cg cR⟩
 |obj ks l=>
  simp only[Af]at a;obtain⟨b,sk,i,vs,rfl,g,_,_,_,_,c3,d,_⟩:=a;have f:=hZ d;have e:=hZ c;have r:=c b g;clear d c;go_enter func52,ntmps52;go_wp2;go_ret;exact⟨_,rfl,f.o.kept (((Chg.refl w []).alloc _).keepsF e.o) (fun _ h=>h),by exact cg cR⟩
def UE(F:Nat->Prop)(t:Tr)(w:Wl)(e:Ending)(w':Wl):Prop:=∃a vs,e= nR a/\Ax w' F a vs/\Ak w' F (Ab t) vs/\Chg w w' []
theorem zN{p:Prop}(h:p:=by have g:=hZ e;have f:=hZ hi;have d:=hZ c;have j:=c b i;clear e hi c;go_enter func53,ntmps53;go_wp2;go_ret;exact⟨_,vs,rfl,g.o.kept (((Chg.refl w []).alloc _).keepsF d.o) (fun _ h=>h),Ak.kept (((Chg.refl w []).alloc _).keepsF d.o) (fun _ h=>h) _ _ f.o,by exact cg cR⟩):p:=h
theorem ID(F:Nat->Prop)(t:Tr)(v:Vl)(w:Wl)(a:Af w F t v)(c:∀k,F k->k<w.heap.size):
  Cl prog 53 #[nA #[v]] w (UE F t w):=by
 have n:∀(s:BY) (w:Wl),(Instr.typeAssert (nF 166 (nG s)) 86 142 true).run prog w= .ok (nT #[nP nN,.bool false]) w:=fun _ _=>Yb;have o:∀(w:Wl),(Instr.typeAssert (nF 159 (nA #[])) 86 142 true).run prog w= .ok (nT #[nP nN,.bool false]) w:=fun _=>Yb;have p:∀(s:Bool) (w:Wl),(Instr.typeAssert (nF 160 (.bool s)) 86 142 true).run prog w= .ok (nT #[nP nN,.bool false]) w:=fun _ _=>Yb;have q:∀(s:Nat) (w:Wl),(Instr.typeAssert (nF 164 (.float .f64 s)) 86 142 true).run prog w= .ok (nT #[nP nN,.bool false]) w:=fun _ _=>Yb;have r:∀(s:Option Addr) (w:Wl),(Instr.typeAssert (nF 141 (nP s)) 86 142 true).run prog w= .ok (nT #[nP nN,.bool false]) w:=fun _ _=>Yb;have u:∀(s:Option Addr) (w:Wl),(Instr.typeAssert (nF 142 (nP s)) 86 142 true).run prog w= .ok (nT #[nP s,.bool true]) w:=fun _ _=>Yb;have x:∀(s:BY) (w:Wl),(Instr.typeAssert (nF 166 (nG s)) 86 141 true).run prog w= .ok (nT #[nP nN,.bool false]) w:=fun _ _=>Yb;have y:∀(w:Wl),(Instr.typeAssert (nF 159 (nA #[])) 86 141 true).run prog w= .ok (nT #[nP nN,.bool false]) w:=fun _=>Yb;have z:∀(s:Bool) (w:Wl),(Instr.typeAssert (nF 160 (.bool s)) 86 141 true).run prog w= .ok (nT #[nP nN,.bool false]) w:=fun _ _=>Yb;have A:∀(s:Nat) (w:Wl),(Instr.typeAssert (nF 164 (.float .f64 s)) 86 141 true).run prog w= .ok (nT #[nP nN,.bool false]) w:=fun _ _=>Yb;have B:∀(s:Option Addr) (w:Wl),(Instr.typeAssert (nF 141 (nP s)) 86 141 true).run prog w= .ok (nT #[nP s,.bool true]) w:=fun _ _=>Yb;have C:∀(s:Option Addr) (w:Wl),(Instr.typeAssert (nF 142 (nP s)) 86 141 true).run prog w= .ok (nT #[nP nN,.bool false]) w:=fun _ _=>Yb;cases t with
 |null=>simp only[Af]at a;subst a;go_enter func53,ntmps53;go_wp2;go_ret;exact⟨_,[],rfl,Ax.empty _ _,by simp[Ab,Ak],by exact cg cR⟩
 |flag b=>simp only[Af]at a;subst a;go_enter func53,ntmps53;go_wp2;go_ret;exact⟨_,[],rfl,Ax.empty _ _,by simp[Ab,Ak],by exact cg cR⟩
 |num b=>simp only[Af]at a;subst a;go_enter func53,ntmps53;go_wp2;go_ret;exact⟨_,[],rfl,Ax.empty _ _,by simp[Ab,Ak],by exact cg cR⟩
 |text b=>simp only[Af]at a;subst a;go_enter func53,ntmps53;go_wp2;go_ret;exact⟨_,[],rfl,Ax.empty _ _,by simp[Ab,Ak],by exact cg cR⟩
 |list l=>
  simp only[Af]at a;obtain⟨b,m,vs,rfl,i,_,_,_,c3,e,hi⟩:=a;exact zN
 |obj ks l=>
  simp only[Af]at a;obtain⟨b,sk,m,vs,rfl,i,_,_,_,_,_,_,c4,e,hi⟩:=a;exact zN
theorem Up(F:Nat->Prop)(t:Tr)(v:Vl)(w:Wl)(d:Af w F t v)(g:∀k,F k->k<w.heap.size):
  Cl prog 51 #[nA #[v]] w fun e w'=>e= nR (nI nX (Ab t).length)/\Chg w w' []:=by
 have i:=hZ d;have f:=hZ g;obtain⟨n,x,rfl⟩:=d.iface;clear d g;go_enter func51,ntmps51;go_wp2_with(first|(go_at_call 53;go_loud(have b:=((Chg.refl w []).alloc (nC #[nF n x] 88));refine(ID F t _ _ (Af.kept (b.keepsF f.o) (fun _ h=>h) _ _ i.o) (fun k l=>Q6 (f.o k l) b.size)).mono ?_;rintro e p ⟨o,vs,rfl,m,hi,j⟩;obtain⟨a,c,rfl,_⟩:=m.cell;rw[hi.length])));go_ret;exact⟨rfl,b.trans j⟩
theorem IG(F:Nat->Prop)(a:Nat)(v:Vl)(w:Wl)(d:w.cell? ⟨a,0,nN⟩=nM v)(hi:∃b x,v= nF b x)(c:a<w.heap.size):
  Cl prog 31 #[nP (nM ⟨a,0,nN⟩)] w fun e w'=>e= nR (nA #[v])/\Chg w w' []:=by
 obtain⟨b,x,rfl⟩:=hi;go_enter func31,ntmps31;go_wp2;refine bodyPost_ret (v:= nA #[nF b x]) (by simp[results,results31,go_sem]) rfl ⟨rfl,by exact cg cR⟩
structure Cy(ks:List BY):Prop where
 right:∀s∈ks,Utf.Al s=true
 small:∀s∈ks,s.size<=2147483648
 rise:ks.Pairwise fun a b=>Utf.BK a b<0
 many:ks.length<=2147483648
theorem Cy.lt{ks:List BY}(h:Cy ks){i j:Nat}{a b:BY}(hi:ks[i]? =nM a)(d:ks[j]? =nM b)(c:i<j):Utf.BK a b<0:=by
 obtain⟨e,rfl⟩:=Qc.1 hi;obtain⟨f,rfl⟩:=Qc.1 d;exact List.pairwise_iff_getElem.1 h.rise i j e f c
def KQ(ks:List BY)(a:BY)(w:Wl)(e:Ending)(w':Wl):Prop:=
 ∃(i:Nat) (ok:Bool),e= nR (nT #[nI nX i,.bool ok])/\Chg w w' []/\(ok=true->ks[i]? =nM a)/\(ok=false->a∉ks)/\i<=ks.length/\
  (∀t s,t<i->ks[t]? =nM s->Utf.BK s a<0)/\(∀t s,i<=t->ks[t]? =nM s->0<=Utf.BK s a)
theorem J7(F:Nat->Prop)(sk:Vl)(ks:List BY)(d:BY)(w:Wl)(U:Ax w F sk (Ad ks))(Q:∀k,F k->k<w.heap.size)(J:Cy ks)(X:Utf.Al d=true)(G:d.size<=2147483648):
  Cl prog 168 #[sk,nG d,.func (.func 100) #[] #[]] w (KQ ks d w):=by
 obtain⟨a,c,rfl,R⟩:=U.cell;have V:(Ad ks).length=ks.length:=by simp[Ad]
 have af:=J.many;have Z:=hZ R;have HF:=hZ Q;have q:=hZ J;have B:=hZ X;clear U Q J X R;rw[V];clear V
 have L:Hid (∀(wr:Wl),Chg w wr []->∀(i:Nat) (s:BY),ks[i]? =nM s->∃b o,a=nM ⟨b,o,nN⟩/\wr.cell? ⟨b,o+i,nN⟩=nM (nG s)):=by
  intro wr T i s hi;obtain⟨b,o,e1,e2,e3⟩:=Z.o i (nG s) (by simp[Ad,hi]);exact⟨b,o,e1,T.keeps e3⟩
 go_enter func168,ntmps168;go_wp2
 go_loopg [9,10] ks.length (fun kx s9 ab wr=>∃lo hi:Nat,s9= nI nX lo/\ab= nI nX hi/\lo<=hi/\hi<=ks.length/\hi-lo<=kx/\Chg w wr []/\
  (∀t s,t<lo->ks[t]? =nM s->Utf.BK s d<0)/\(∀t s,hi<=t->ks[t]? =nM s->0<=Utf.BK s d))
 case atStart=>exact⟨0,ks.length,rfl,rfl,Nat.zero_le _,Q8 _,Zj,Chg.refl _ _,fun t s f=>absurd f (Nat.not_lt_zero _),fun t s C D=>by have:=(Qc.1 D).1;omega⟩
 case round=>
  obtain⟨lo,hi,rfl,rfl,ad,E,T,S,M,N⟩:=hrel;have p:=hZ S;have v:=hZ M;have z:=hZ N;clear S M N;by_cases ae:lo<hi
  .have hm:(lo+hi)/2<ks.length:=by omega
   have j:ks[(lo+hi)/2]? =nM ks[(lo+hi)/2]:=Q9 hm;obtain⟨s,A⟩:=Ue (ks[(lo+hi)/2]);rw[<-A]at j;have u:s∈ks:=Qi j;obtain⟨b,o,rfl,aa⟩:=L.o _ p.o _ _ j;have l:=hZ j;have x:=hZ (q.o.right s u);have y:=hZ (q.o.small s u);clear A j u;by_cases n:Utf.BK s d<0
   .have m:=hZ n;go_wp2_with(first|(go_at_call 100;(with_reducible refine(FX s d _ y.o G x.o B.o).mono ?_);rintro e K ⟨rfl,r⟩));go_roundg (hi-((lo+hi)/2+1))
    case measure=>omega
    case rel=>
     refine⟨(lo+hi)/2+1,hi,by rw[show((lo:Int)+(hi:Int))/2+1=(((lo+hi)/2+1:Nat):Int) by omega],rfl,Zj,E,Q8 _,p.o.trans r,fun t Y f g=> ?_,z.o⟩;by_cases H:t=(lo+hi)/2
     .subst H;rw[l.o]at g;injection g with g;subst g;exact m.o
     .exact Utf.Ev (q.o.lt g l.o Zj) m.o
   .have m:=hZ n;go_wp2_with(first|(go_at_call 100;(with_reducible refine(FX s d _ y.o G x.o B.o).mono ?_);rintro e K ⟨rfl,r⟩));go_roundg ((lo+hi)/2-lo)
    case measure=>omega
    case rel=>
     refine⟨lo,(lo+hi)/2,rfl,by rw[show((lo:Int)+(hi:Int))/2=(((lo+hi)/2:Nat):Int) by omega],Zj,Zj,Q8 _,p.o.trans r,v.o,fun t Y f g=> ?_⟩;by_cases H:t=(lo+hi)/2
     .subst H;rw[l.o]at g;injection g with g;subst g;have:=m.o;omega
     .have C:=q.o.lt l.o g Zj;have D:=m.o;by_cases P:Utf.BK Y d<0
      .exact absurd (Utf.Ev C P) Zj
      .omega
  .obtain rfl:hi=lo:=by omega
   by_cases W:hi<ks.length
   .have j:ks[hi]? =nM ks[hi]:=Q9 W;obtain⟨s,A⟩:=Ue (ks[hi]);rw[<-A]at j;have u:s∈ks:=Qi j;obtain⟨b,o,rfl,aa⟩:=L.o _ p.o _ _ j;have l:=hZ j;have x:=hZ (q.o.right s u);have y:=hZ (q.o.small s u);clear A j u;by_cases n:Utf.BK s d=0
    .have m:=hZ n;have hb:(Utf.BK s d==0)=true:=by simp[n]
     clear n;go_wp2_with(first|(go_at_call 100;(with_reducible refine(FX s d _ y.o G x.o B.o).mono ?_);rintro e K ⟨rfl,r⟩));go_ret2;exact⟨hi,true,rfl,p.o.trans r,fun _=>by rw[l.o,Utf.FJ m.o],fun h=>(by cases h),E,v.o,z.o⟩
    .have m:=hZ n;have hb:(Utf.BK s d==0)=false:=by simp[n]
     clear n;go_wp2_with(first|(go_at_call 100;(with_reducible refine(FX s d _ y.o G x.o B.o).mono ?_);rintro e K ⟨rfl,r⟩));go_ret2;refine⟨hi,false,rfl,p.o.trans r,fun h=>(by cases h),fun _ I=> ?_,E,v.o,z.o⟩;obtain⟨t,f⟩:=List.mem_iff_getElem?.1 I;have O:=Utf.Gc d;by_cases C:t<hi
     .have:=v.o t d C f;omega
     .by_cases D:t=hi
      .subst D;rw[l.o]at f;injection f with f;subst f;exact m.o O
      .have P:=z.o hi s (Q8 _) l.o;have h4:=q.o.lt l.o f Zj;omega
   .have HN:=hZ W;go_wp2;go_ret2;refine⟨hi,false,rfl,p.o,fun h=>(by cases h),fun _ I=> ?_,E,v.o,z.o⟩;obtain⟨t,f⟩:=List.mem_iff_getElem?.1 I;have O:=Utf.Gc d;have:=(Qc.1 f).1;have:=v.o t d (by have:=HN.o;omega) f;omega
end
end Go.Proofs.YtamgbmcchhmojaaGreatDoor

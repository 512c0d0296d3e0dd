/- Part 3 of the proof of patchJoined_card. -/
import Derived.Lib.ItoaNum
import Derived.RegionTactic
import Derived.Test.YtkfnkppdhcaeoaaGreatDoorM02
set_option maxRecDepth 100000
set_option maxHeartbeats 32000000
set_option linter.unusedSimpArgs false
set_option linter.unusedVariables false
set_option linter.unnecessarySimpa false
namespace Go.Proofs.YtkfnkppdhcaeoaaGreatDoor
open Go renaming Value->Vl,World->Wl
section
open Go Go.RowKit
def Es(a:Array Oper)(i:Nat):Option Tmp:=(a[i]?).bind (·.dst)
def bC(b:Array Oper)(a:Act)(i:Nat):Vl:=match Es b i with|some t=>a.tmps.getD t undef|none=>undef
def My(a:Array Oper)(n:Nat):Bool:=
 (List.range a.size).all fun i=>match a[i]? with
  |some o=>(o.after.all fun e=>decide (e.on<i))&&(match o.dst with|some t=>decide (t<n)&&(List.range a.size).all fun j=>decide (j=i)||decide (Es a j≠some t)|none=>true)
  |none=>true
theorem My.at{a:Array Oper}{n:Nat}(h:My a n=true){i:Nat}{o:Oper}(f:a[i]? =some o):
  (∀e∈o.after,e.on<i)/\(∀t,o.dst=some t->t<n/\∀j,j≠i->j<a.size->Es a j≠some t):=by
 have hi:i<a.size:=(Array.getElem?_eq_some_iff.1 f).1;have b:=List.all_eq_true.1 h i (List.mem_range.2 hi);rw[f]at b;simp only[Bool.and_eq_true]at b;refine⟨fun e g=>by simpa using Array.all_eq_true_iff_forall_mem.1 b.1 e (by simpa using g),fun t m=> ?_⟩;have c:=b.2;rw[m]at c;simp only[Bool.and_eq_true,decide_eq_true_eq]at c;refine⟨c.1,fun j k l=> ?_⟩;have d:=List.all_eq_true.1 c.2 j (List.mem_range.2 l);simp only[Bool.or_eq_true,decide_eq_true_eq]at d;exact d.resolve_left k
structure Fr(ops:Array Oper)(base a:Act):Prop where
 defers:a.defers=base.defers
 size:a.tmps.size=base.tmps.size
 same:∀t,(∀j,j<ops.size->Es ops j≠some t)->a.tmps.getD t undef=base.tmps.getD t undef
def Zt(a:Array Oper)(t:Tmp):Bool:=(List.range a.size).all fun j=>decide (Es a j≠some t)
theorem Fr.at{b:Array Oper}{base a:Act}(h:Fr b base a)(t:Tmp)(c:Zt b t=true):a.tmps.getD t undef=base.tmps.getD t undef:=
 h.same t fun j d=>by simpa using List.all_eq_true.1 c j (List.mem_range.2 d)
theorem Fr.refl(b:Array Oper)(a:Act):Fr b a a:=⟨rfl,rfl,fun _ _=>rfl⟩
theorem ML(a:Act)(d:Option Tmp)(v:Vl):(a.put d v).tmps.size=a.tmps.size:=by cases d<;>simp[Act.put]
theorem Jo(a:Act)(d:Option Tmp)(v:Vl):(a.put d v).defers=a.defers:=by cases d<;>rfl
theorem Gm(a:Act)(d:Option Tmp)(v:Vl)(t:Tmp)(h:d≠some t):(a.put d v).tmps.getD t undef=a.tmps.getD t undef:=by
 cases d with
 |none=>rfl
 |some d=>
  have b:d≠t:=fun e=>h (by rw[e])
  simp[Act.put,Qp,Array.getElem?_setIfInBounds,b]
theorem RQ(a:Act)(t:Tmp)(v:Vl)(h:t<a.tmps.size):(a.put (some t) v).tmps.getD t undef=v:=by
 simp[Act.put,Qp,Array.getElem?_setIfInBounds,h]
theorem Ia{c:Type}(l:List c)(p q:c->Bool)(h:∀x∈l,q x=true->p x=true)(x:c)(a:x∈l)(g:p x=true)(i:q x=false):(l.filter q).length<(l.filter p).length:=by
 induction l with
 |nil=>cases a
 |cons y l e=>
  have r:(l.filter q).length<=(l.filter p).length:=by
   clear e a
   induction l with
   |nil=>simp
   |cons z l o=>
    have f:∀x∈y::l,q x=true->p x=true:=fun x a=>h x (by simp only[Qh]at a|-;rcases a with d|d<;>simp[d])
    have:=o f;have b:=h z (by simp);rw[List.filter_cons,List.filter_cons];cases k:q z
    .cases t:p z<;>simp<;>omega
    .rw[b k];simp;omega
  rw[List.filter_cons,List.filter_cons]
  rcases Qh.1 a with rfl|m
  .rw[g,i];simp;omega
  .have:=e (fun z b=>h z (Qg _ b)) m
   have n:=h y (by simp);cases j:q y
   .cases s:p y<;>simp<;>omega
   .rw[n j];simp;omega
def Dt(b:Array Oper)(a:Array Bool):Nat:=((List.range b.size).filter fun i=> !a.getD i true).length
theorem DF(l:Array Bool)(i j:Nat)(d:Bool):(l.setIfInBounds i true).getD j d=if i=j then(if i<l.size then true else d)else l.getD j d:=by
 simp only[Qp,Array.getElem?_setIfInBounds];by_cases h:i=j
 .subst h
  by_cases a:i<l.size<;>simp[a]
 .simp[h]
section
variable {P:Program} {ops:Array Oper} {Q:Exit->Act->Wl->Prop} {md:Region.Mode}
end
def Eb(f:Nat->Vl)(i:Nat)(v:Vl):Nat->Vl:=fun k=>if k=i then v else f k
theorem Bf(f:Nat->Vl)(i:Nat)(v:Vl):Eb f i v i=v:=Qr rfl
theorem AA(f:Nat->Vl){i k:Nat}(v:Vl)(h:k≠i):Eb f i v k=f k:=Qs h
def Jd(a:Array Oper):List Tmp:=(List.range a.size).filterMap fun i=>Es a i
theorem IY:∀(l:List Tmp) (g:Tmp->Vl) (t:Array Vl),(l.foldl (fun t k=>t.setIfInBounds k (g k)) t).size=t.size
 |[],_,_=>rfl
 |k::l,g,t=>by rw[List.foldl_cons,IY l g];simp
theorem JI(g:Tmp->Vl)(k:Tmp):∀(l:List Tmp) (t:Array Vl),k<t.size->(l.foldl (fun t k=>t.setIfInBounds k (g k)) t).getD k undef=if k∈l then g k else t.getD k undef
 |[],t,_=>by simp
 |x::l,t,b=>by
  rw[List.foldl_cons,JI g k l _ (by simpa using b)];by_cases h:k∈l
  .rw[Qr h,Qr (Qg _ h)]
  .rw[Qs h]
   by_cases a:k=x
   .subst a
    rw[Qr (List.mem_cons_self ..)];simp[Qp,b]
   .rw[Qs (by simp[a,h])]
    have c:x≠k:=fun e=>a e.symm
    simp[Qp,Array.getElem?_setIfInBounds,c]
theorem Fr.form{b:Array Oper}{base a:Act}(h:Fr b base a):a.tmps=(Jd b).foldl (fun t k=>t.setIfInBounds k (a.tmps.getD k undef)) base.tmps:=by
 have o:=IY (Jd b) (fun k=>a.tmps.getD k undef) base.tmps;refine Array.ext (by rw[o,h.size]) fun k d g=> ?_
 have n:k<base.tmps.size:=by rw[<-h.size];exact d
 have i:=JI (fun k=>a.tmps.getD k undef) k (Jd b) base.tmps n;have e:a.tmps.getD k undef=a.tmps[k]:=by simp[Qp,d]
 have f:((Jd b).foldl (fun t k=>t.setIfInBounds k (a.tmps.getD k undef)) base.tmps).getD k undef=((Jd b).foldl (fun t k=>t.setIfInBounds k (a.tmps.getD k undef)) base.tmps)[k]:=by rw[Qp,Array.getElem?_eq_getElem g];rfl
 rw[<-e,<-f,i];by_cases c:k∈Jd b
 .rw[Qr c]
 .rw[Qs c]
  exact h.same k fun j m l=>c (List.mem_filterMap.2 ⟨j,List.mem_range.2 m,l⟩)
theorem Fr.form'{c:Array Oper}{base a:Act}(h:Fr c base a)(b:List Tmp)(d:Jd c=b):a.tmps=b.foldl (fun t k=>t.setIfInBounds k (a.tmps.getD k undef)) base.tmps:=d▸h.form
def Fm(b:Region.Mode)(a:Array Oper)(n:Nat):Bool:=
 (List.range a.size).all fun i=>match a[i]? with
  |some o=>(o.after.all fun e=> !Region.binds b e||decide (e.on<i))&&(match o.dst with|some t=>decide (t<n)&&(List.range a.size).all fun j=>decide (j=i)||decide (Es a j≠some t)|none=>true)
  |none=>true
theorem Fm.at{g:Region.Mode}{b:Array Oper}{n:Nat}(h:Fm g b n=true){i:Nat}{o:Oper}(f:b[i]? =some o):
  (∀e∈o.after,Region.binds g e=true->e.on<i)/\(∀t,o.dst=some t->t<n/\∀j,j≠i->j<b.size->Es b j≠some t):=by
 have hi:i<b.size:=(Array.getElem?_eq_some_iff.1 f).1;have c:=List.all_eq_true.1 h i (List.mem_range.2 hi);rw[f]at c;simp only[Bool.and_eq_true]at c;refine⟨fun e l k=> ?_,fun t q=> ?_⟩
 .have a:=Array.all_eq_true_iff_forall_mem.1 c.1 e l
  rw[k]at a;simpa using a
 have d:=c.2;rw[q]at d;simp only[Bool.and_eq_true,decide_eq_true_eq]at d;refine⟨d.1,fun j m p=> ?_⟩;have a:=List.all_eq_true.1 d.2 j (List.mem_range.2 p);simp only[Bool.or_eq_true,decide_eq_true_eq]at a;exact a.resolve_left m
theorem OO{m:Region.Mode}{b:Array Oper}{a:Act}{i:Nat}{o:Oper}{v:Vl}(d:b[i]? =some o)(g:Fm m b a.tmps.size=true)(l:o.dst=none->v=undef):bC b (a.put o.dst v)=Eb (bC b a) i v:=by
 funext j
 have n:i<b.size:=(Array.getElem?_eq_some_iff.1 d).1;by_cases h:j=i
 .subst h
  rw[Bf];unfold bC Es;rw[d];simp only[Option.bind_some]
  cases c:o.dst with
  |none=>exact(l c).symm
  |some t=>
   simp only;exact RQ _ _ _ ((Fm.at g d).2 t c).1
 .rw[AA _ _ h]
  unfold bC
  cases c:Es b j with
  |none=>rfl
  |some t=>
   simp only;refine Gm _ _ _ _ fun e=> ?_
   have k:j<b.size:=by
    unfold Es at c
    cases f:b[j]? with
    |none=>rw[f]at c;cases c
    |some p=>exact(Array.getElem?_eq_some_iff.1 f).1
   exact((Fm.at g d).2 t e).2 j h k c
section
variable {P:Program} {ops:Array Oper} {Q:Exit->Act->Wl->Prop} {md:Region.Mode}
end
def BA(d:Nat->Bool)(i:Nat):Nat->Bool:=fun k=>if k=i then true else d k
theorem BG(d:Nat->Bool)(i:Nat):BA d i i=true:=Qr rfl
theorem An(d:Nat->Bool){i k:Nat}(h:k≠i):BA d i k=d k:=Qs h
section
variable {P:Program} {ops:Array Oper} {Q:Exit->Act->Wl->Prop} {md:Region.Mode}
theorem Gy(base:Act)(g:(Nat->Bool)->(Nat->Vl)->Wl->Prop)(G:Fm md ops base.tmps.size=true)(ab:∀i o a w d,ops[i]? =some o->Fr ops base a->d i=false->(∀e∈o.after,Region.binds md e=true->d e.on=true)->g d (bC ops a) w->
   ∀K:Act->Wl->Prop,(∀v w',(o.dst=none->v=undef)->g (BA d i) (Eb (bC ops a) i v) w'->K (a.put o.dst v) w')->if Region.wanted o (yielded ops a.tmps)=true then Oper.wp P o a w K Q else K (a.put o.dst undef) w)(A:∀a w d,Fr ops base a->(∀i,i<ops.size->d i=true)->g d (bC ops a) w->Q .normal a w)(w:Wl)(X:g (fun _=>false) (bC ops base) w):
  wpAny P md ops Q ops.size (Array.replicate ops.size false) base w:=by
 have aa:∀(j:Nat) (b:Array Bool) (a:Act) (w:Wl),b.size=ops.size->Dt ops b<=j->Fr ops base a->g (fun i=>b.getD i false) (bC ops a) w->
   wpAny P md ops Q j b a w:=by
  intro j
  induction j with
  |zero=>
   intro b a w H D c l
   have C:∀i,i<ops.size->b.getD i true=true:=by
    intro i hi
    cases m:b.getD i true with
    |true=>rfl
    |false=>
     have:i∈(List.range ops.size).filter fun i=> !b.getD i true:=List.mem_filter.2 ⟨List.mem_range.2 hi,by simp only[m];rfl⟩
     have h2:=List.length_pos_of_mem this;unfold Dt at D;omega
   refine wpAny_done ?_ (A a w _ c (fun i hi=> ?_) l) 0
   .unfold Region.ready
    rw[List.filter_eq_nil_iff];intro i hi;rw[C i (List.mem_range.1 hi)];simp
   .have:=C i hi
    rw[Qp,Array.getElem?_eq_getElem (by omega)]at this|-;exact this
  |succ j Y=>
   intro b a w H D c l;by_cases y:Region.ready md ops b=[]
   .refine wpAny_done y (A a w _ c (fun i hi=> ?_) l) _
    suffices h:∀k,k<=ops.size->∀i,i<k->b.getD i false=true from h ops.size (Q8 _) i hi
    intro k
    induction k with
    |zero=>intro _ i hi;omega
    |succ k Z=>
     intro hk i s;have E:=Z (by omega);by_cases T:i<k
     .exact E i T
     .have:i=k:=by omega
      subst this
      cases m:b.getD i false with
      |true=>rfl
      |false=>
       exfalso
       have F:i∈Region.ready md ops b:=by
        unfold Region.ready;refine List.mem_filter.2 ⟨List.mem_range.2 (by omega), ?_⟩;have f:ops[i]? =some ops[i]:=Array.getElem?_eq_getElem (by omega)
        have N:b.getD i true=false:=by
         rw[Qp,Array.getElem?_eq_getElem (by omega)]at m|-;exact m
        rw[N,f];simp only[Bool.not_false,Bool.true_and,Option.map_some,Option.getD_some];rw[Array.all_eq_true_iff_forall_mem];intro e r
        cases q:Region.binds md e with
        |false=>rfl
        |true=>
         have:=(Fm.at G f).1 e r q;rw[E e.on this];rfl
       rw[y]at F;cases F
   .refine wpAny_all rfl y fun i hi=> ?_
    have s:=List.mem_filter.1 hi;have u:i<ops.size:=List.mem_range.1 s.1;have f:ops[i]? =some ops[i]:=Array.getElem?_eq_getElem u;obtain⟨U,p⟩:=Bool.and_eq_true_iff.1 s.2;have z:b.getD i true=false:=by simpa using U
    rw[f]at p;simp only[Option.map_some,Option.getD_some]at p
    have R:∀e∈ops[i].after,Region.binds md e=true->b.getD e.on false=true:=fun e r q=>by
     have B:=Array.all_eq_true_iff_forall_mem.1 p e r;rw[q]at B;simpa using B
    have V:b.getD i false=false:=by
     rw[Qp,Array.getElem?_eq_getElem (by omega)]at z|-;exact z
    refine wpOp_step f fun K M=>ab i ops[i] a w (fun i=>b.getD i false) f c V R l K fun v w' W L=>M _ _ ?_
    have S:bC ops (a.put ops[i].dst v)=Eb (bC ops a) i v:=OO f (by rw[c.size];exact G) W
    have O:(fun k=>(b.setIfInBounds i true).getD k false)=BA (fun i=>b.getD i false) i:=by
     funext k
     rw[DF];unfold BA;by_cases h:i=k
     .subst h;rw[Qr rfl,Qr (by omega),Qr rfl]
     .rw[Qs h,Qs (fun e=>h e.symm)]
    refine Y _ _ _ (by simp[H]) ?_ ?_ (by rw[S,O];exact L)
    .have:Dt ops (b.setIfInBounds i true)<Dt ops b:=by
      unfold Dt;refine Ia _ _ _ (fun x hx n=> ?_) i (List.mem_range.2 u) (by rw[z];rfl) ?_
      .rw[DF]at n
       by_cases h:i=x
       .rw[Qr h,Qr (by omega)]at n;simp at n
       .rwa[Qs h]at n
      .rw[DF,Qr rfl,Qr (by omega)];rfl
     omega
    .refine⟨by rw[Jo,c.defers],by rw[ML,c.size],fun t I=> ?_⟩
     rw[Gm _ _ _ _ (by have:=I i u;unfold Es at this;rw[f]at this;exact this),c.same t I]
 have J:(fun i=>(Array.replicate ops.size false).getD i false)=fun _=>false:=by
  funext i
  rw[Qp,Array.getElem?_replicate];split<;>rfl
 refine aa _ _ _ _ (by simp) ?_ (Fr.refl _ _) (by rw[J];exact X);unfold Dt;exact Q7 (List.length_filter_le _ _) (by simp)
end
def ZX(a:Region.Mode)(b:Array Oper)(d:Nat->Bool):Prop:=∀j o,b[j]? =some o->d j=true->∀e∈o.after,Region.binds a e=true->d e.on=true
section
variable {P:Program} {ops:Array Oper} {Q:Exit->Act->Wl->Prop} {md:Region.Mode}
theorem Dg(base:Act)(b:(Nat->Bool)->(Nat->Vl)->Wl->Prop)(z:Fm md ops base.tmps.size=true)(E:∀i o a w d,ops[i]? =some o->Fr ops base a->d i=false->(∀e∈o.after,Region.binds md e=true->d e.on=true)->ZX md ops d->b d (bC ops a) w->
   ∀K:Act->Wl->Prop,(∀v w',(o.dst=none->v=undef)->b (BA d i) (Eb (bC ops a) i v) w'->K (a.put o.dst v) w')->if Region.wanted o (yielded ops a.tmps)=true then Oper.wp P o a w K Q else K (a.put o.dst undef) w)(q:∀a w d,Fr ops base a->(∀i,i<ops.size->d i=true)->b d (bC ops a) w->Q .normal a w)(w:Wl)(C:b (fun _=>false) (bC ops base) w):
  wpAny P md ops Q ops.size (Array.replicate ops.size false) base w:=by
 refine Gy base (fun d f w=>b d f w/\ZX md ops d) z ?_ (fun a w d r s t=>q a w d r s t.1) w ⟨C,fun _ _ _ e=>by cases e⟩;intro i o a w d n u A p g K y;refine E i o a w d n u A p g.2 g.1 K fun v w' B x=>y v w' B ⟨x, ?_⟩
 intro j D c h e l k;unfold BA at h|-;split
 .rfl
 .by_cases m:j=i
  .subst m
   rw[n]at c
   injection c with c
   subst c;exact p e l k
  .rw[Qs m]at h
   exact g.2 j D c h e l k
end
structure DC(S:List Nat)(V:Nat->Vl->Prop)(P:Nat->Vl->Wl->Prop)(d:Nat->Bool)(f:Nat->Vl)(w:Wl):Prop where
 ph:∃n,n<=S.length/\(∀i j,S[i]? =some j->d j=decide (i<n))/\P n (f (S.getD (n-1) 0)) w
 vals:∀j,j∉S->d j=true->V j (f j)
section
variable {S:List Nat} {V:Nat->Vl->Prop} {P:Nat->Vl->Wl->Prop} {d:Nat->Bool} {f:Nat->Vl} {w w':Wl}
theorem DC.start(h:P 0 (f (S.getD 0 0)) w):DC S V P (fun _=>false) f w:=
 ⟨⟨0,Nat.zero_le _,fun i j _=>by simp,h⟩,fun j _ e=>by cases e⟩
theorem QN{S:List Nat}{n:Nat}(d:n<=S.length)(b:S≠[]):S.getD (n-1) 0∈S:=by
 have c:0<S.length:=List.length_pos_iff.2 b;have a:n-1<S.length:=by omega
 rw[List.getD_eq_getElem?_getD,Q9 a];exact List.getElem_mem a
theorem DC.read{j:Nat}{v:Vl}(h:DC S V P d f w)(o:S≠[])(g:j∉S)(p:V j v):DC S V P (BA d j) (Eb f j v) w:=by
 obtain⟨n,b,l,m⟩:=h.ph;refine⟨⟨n,b,fun i k a=> ?_, ?_⟩,fun k a c=> ?_⟩
 .have:k≠j:=fun e=>g (e▸Qi a)
  rw[An d this];exact l i k a
 .have:S.getD (n-1) 0≠j:=fun e=>g (e▸QN b o)
  rw[AA f v this];exact m
 .by_cases e:k=j
  .subst e;rw[Bf];exact p
  .rw[AA f v e];rw[An d e]at c;exact h.vals k a c
theorem DC.spot{n j:Nat}(h:DC S V P d f w)(q:S[n]? =some j)(p:d j=false)(r:n=0\/∃i,S[n-1]? =some i/\d i=true):
  (∀i j,S[i]? =some j->d j=decide (i<n))/\P n (f (S.getD (n-1) 0)) w:=by
 obtain⟨m,s,a,l⟩:=h.ph;have b:=a n j q;rw[p]at b;have t:¬n<m:=fun e=>by rw[decide_eq_true e]at b;cases b
 have o:m=n:=by
  rcases r with rfl|⟨i,g,k⟩
  .omega
  .have c:=a _ i g
   rw[k]at c;have u:=of_decide_eq_true c.symm;omega
 subst o;exact⟨a,l⟩
theorem DC.at{n j:Nat}(h:DC S V P d f w)(b:S[n]? =some j)(a:d j=false)(c:n=0\/∃i,S[n-1]? =some i/\d i=true):P n (f (S.getD (n-1) 0)) w:=
 (h.spot b a c).2
theorem DC.next{n j:Nat}{v:Vl}(h:DC S V P d f w)(b:S[n]? =some j)(s:d j=false)(x:n=0\/∃i,S[n-1]? =some i/\d i=true)(u:S.Nodup)(r:P (n+1) v w'):DC S V P (BA d j) (Eb f j v) w':=by
 obtain⟨q,_⟩:=h.spot b s x;have t:n<S.length:=(Qc.1 b).1;refine⟨⟨n+1,t,fun i k a=> ?_, ?_⟩,fun k a l=> ?_⟩
 .by_cases e:i=n
  .subst e
   rw[b]at a;obtain rfl:=Q5 a;rw[BG];simp
  .have c:k≠j:=fun g=>by
    subst g;obtain⟨y,o⟩:=Qc.1 a;obtain⟨z,p⟩:=Qc.1 b;exact e ((List.getElem_inj u).1 (o.trans p.symm))
   rw[An d c,q i k a];by_cases m:i<n
   .rw[decide_eq_true m,decide_eq_true (by omega)]
   .rw[decide_eq_false m,decide_eq_false (by omega)]
 .rw[show n+1-1=n from rfl,List.getD_eq_getElem?_getD,b,Option.getD_some,Bf]
  exact r
 .have c:k≠j:=fun g=>a (g▸Qi b)
  rw[AA f v c];rw[An d c]at l;exact h.vals k a l
theorem DC.low{n j:Nat}(h:DC S V P d f w)(i:S[n]? =some j)(g:d j=false):∃m v,m<=n/\P m v w:=by
 obtain⟨m,k,b,c⟩:=h.ph;have a:=b n j i;rw[g]at a;exact⟨m,_,Nat.le_of_not_lt (fun e=>by rw[decide_eq_true e]at a;cases a),c⟩
theorem DC.any(h:DC S V P d f w):∃m v,m<=S.length/\P m v w:=by
 obtain⟨m,a,c,b⟩:=h.ph;exact⟨m,_,a,b⟩
theorem DC.fin{n j:Nat}(h:DC S V P d f w)(o:S.length=n+1)(c:S[n]? =some j)(i:d j=true):P (n+1) (f j) w:=by
 obtain⟨m,k,e,a⟩:=h.ph;have b:=e n j c;rw[i]at b;have l:=of_decide_eq_true b.symm;have g:m=n+1:=by omega
 subst g;rw[show n+1-1=n from rfl,List.getD_eq_getElem?_getD,c,Option.getD_some]at a;exact a
end
end
end Go.Proofs.YtkfnkppdhcaeoaaGreatDoor
namespace Ptr
open Go renaming Value->Vl,World->Wl
section
open Utf
def Sk(a:Option (Nat×Nat))(c:UInt8):Option (Nat×Nat):=
 match a with
 |none=>none
 |some (0,_)=>if AV c.toNat=0 then none else if AV c.toNat=1 then some (0,0)else some (1,c.toNat)
 |some (m+1,h)=>if EL h (m+1) c.toNat=true then(if m+2=AV h then some (0,0)else some (m+2,h))else none
def Fw(a:Option (Nat×Nat))(l:List UInt8):Option (Nat×Nat):=l.foldl Sk a
def CY(l:List UInt8):Bool:=match Fw (some (0,0)) l with
 |some (0,_)=>true
 |_=>false
theorem OC(l:List UInt8):Fw none l=none:=by
 induction l with
 |nil=>rfl
 |cons c l a=>exact a
theorem Li(c:Option (Nat×Nat))(a b:List UInt8):Fw c (a++b)=Fw (Fw c a) b:=by
 unfold Fw;rw[List.foldl_append]
theorem Vv(s:BY)(k:Nat)(i:k<=s.size):match Fw (some (0,0)) (s.data.toList.take k)with
  |some (m,h)=>Inv s k m h
  |none=>Al s=false:=by
 induction k with
 |zero=>exact N6 s 0
 |succ k a=>
  have c:k<s.size:=by omega
  have j:s.data.toList.length=s.size:=Array.length_toList
  have g:s.data.toList[k]? =some (s[k]'c):=by
   rw[Q9 (by omega)];rfl
  rw[List.take_add_one,g,Li];have a:=a (by omega);have e:(s[k]'c).toNat=Aj s k:=(BV c).symm
  cases f:Fw (some (0,0)) (s.data.toList.take k)with
  |none=>rw[f]at a;exact a
  |some p=>
   obtain⟨m,h⟩:=p;rw[f]at a;simp only[Option.toList_some,Fw,List.foldl_cons,List.foldl_nil]
   cases m with
   |zero=>
    simp only[Sk];rw[e];by_cases b:AV (Aj s k)=0
    .rw[Qr b];exact WI a c b
    .rw[Qs b]
     by_cases d:AV (Aj s k)=1
     .rw[Qr d];exact Uj a c d 0
     .rw[Qs d];exact QV a c (by omega)
   |succ m=>
    simp only[Sk];rw[e];have l:=QW a (by omega);by_cases b:EL h (m+1) (Aj s k)=true
    .rw[Qr b]
     by_cases d:m+2=AV h
     .rw[Qr d];exact QU a (by omega) c d b 0
     .rw[Qs d];exact WH a (by omega) c (by omega) b
    .rw[Qs b];exact Ug a (by omega) c (by simpa using b)
theorem E8(s:BY):Al s=CY s.data.toList:=by
 have h:=Vv s s.size (Q8 _);rw[Qn (show s.data.toList.length<=s.size from Nat.le_of_eq Array.length_toList)]at h;unfold CY
 cases a:Fw (some (0,0)) s.data.toList with
 |none=>rw[a]at h;exact h
 |some p=>
  obtain⟨m,g⟩:=p;rw[a]at h
  cases m with
  |zero=>exact Ui h
  |succ m=>exact Uh h (by omega)
theorem Gt(a:Option (Nat×Nat))(c:UInt8)(b:c.toNat<128):Sk a c=(match a with|some (0,_)=>some (0,0)|_=>none):=by
 have d:AV c.toNat=1:=by unfold AV;rw[Qr b]
 match a with
 |none=>rfl
 |some (0,_)=>simp[Sk,d]
 |some (m+1,h)=>
  have:EL h (m+1) c.toNat=false:=by
   cases g:EL h (m+1) c.toNat with
   |false=>rfl
   |true=>
    unfold EL at g;split at g
    .have:=DP g;omega
    .unfold He at g;simp at g;omega
  simp[Sk,this]
theorem MX(a:Option (Nat×Nat))(c d:UInt8)(b:c.toNat<128)(e:d.toNat<128):Sk (Sk a c) d=Sk a c:=by
 rw[Gt _ d e,Gt _ c b]
 match a with
 |none=>rfl
 |some (0,_)=>rfl
 |some (m+1,h)=>rfl
theorem XR(a:Option (Nat×Nat))(c d:UInt8)(b:c.toNat<128)(e:d.toNat<128):Sk a c=Sk a d:=by
 rw[Gt _ d e,Gt _ c b]
theorem Jp(a b:List UInt8)(c:UInt8)(d:c.toNat<128):CY (a++c::b)=(CY a&&CY b):=by
 unfold CY;rw[Li]
 show(match Fw (Sk (Fw (some (0,0)) a) c) b with|some (0,_)=>true|_=>false)=_
 rw[Gt _ c d]
 cases Fw (some (0,0)) a with
 |none=>rw[OC];rfl
 |some p=>
  obtain⟨m,g⟩:=p
  cases m with
  |zero=>simp
  |succ m=>simp only[OC];rfl
theorem EQ(b:List UInt8)(c:UInt8)(a:c.toNat<128):CY (c::b)=CY b:=by
 have:=Jp [] b c a;simpa[CY,Fw]using this
def A4:List UInt8->Bool
 |[]=>true
 |c::r=>(c !=126||r.head? ==some 48||r.head? ==some 49)&&A4 r
def Ct:List UInt8->List UInt8
 |[]=>[]
 |[c]=>[c]
 |c::d::r=>if c=126 then(if d=49 then 47 else 126)::Ct r else c::Ct (d::r)
def esc:List UInt8->List UInt8
 |[]=>[]
 |c::r=>(if c=126 then [126,48]else if c=47 then [126,49]else [c])++esc r
def Bc(c:UInt8):Bool:=c !=47
def CE:List UInt8->List (List UInt8)
 |[]=>[]
 |_::r=>Ct (r.takeWhile Bc)::CE (r.dropWhile Bc)
termination_by l=>l.length
decreasing_by simp;have:=(List.dropWhile_suffix (l:=r) Bc).sublist.length_le;omega
def Bl:List (List UInt8)->List UInt8
 |[]=>[]
 |t::l=>47::esc t++Bl l
def BH:List UInt8->Bool
 |[]=>true
 |c::_=>c==47
theorem C7(r:List UInt8):BH (r.dropWhile Bc)=true:=by
 induction r with
 |nil=>rfl
 |cons c r a=>
  rw[List.dropWhile_cons];split
  .exact a
  .rename_i h
   simp[Bc]at h;simp[BH,h]
theorem GT(a b:List UInt8)(e:BH b=true)(h:A4 (a++b)=true):A4 a=true/\A4 b=true:=by
 induction a with
 |nil=>exact⟨rfl,h⟩
 |cons c a i=>
  simp only[Qo,A4,Bool.and_eq_true]at h|-;obtain⟨f,g⟩:=i h.2;refine⟨⟨?_,f⟩,g⟩
  cases a with
  |cons d a=>exact h.1
  |nil=>
   have:=h.1
   cases b with
   |nil=>simpa using this
   |cons d b=>
    simp[BH]at e;subst e;simpa using this
theorem Jk{d:UInt8}{r:List UInt8}(h:A4 (126::d::r)=true):d=48\/d=49:=by
 rw[A4,Bool.and_eq_true]at h;simpa using h.1
theorem WV{p:UInt8->Bool}{l:List UInt8}{x:UInt8}(h:x∈l.takeWhile p):p x=true:=by
 induction l with
 |nil=>cases h
 |cons c l b=>
  rw[List.takeWhile_cons]at h;split at h
  .rename_i a
   rcases Qh.1 h with rfl|h
   .exact a
   .exact b h
  .cases h
theorem Ki:∀(p:List UInt8),A4 p=true->(∀c∈p,Bc c=true)->esc (Ct p)=p
 |[],_,_=>rfl
 |[c],h,b=>by
  have l:c≠126:=by intro e;subst e;simp[A4]at h
  have i:c≠47:=by have:=b c (by simp);simpa[Bc]using this
  simp[Ct,esc,l,i]
 |c::d::r,h,b=>by
  have k:∀x∈d::r,Bc x=true:=fun x f=>b x (by simp[Qh]at f|-;exact .inr f)
  have i:c≠47:=by have:=b c (by simp);simpa[Bc]using this
  by_cases j:c=126
  .subst j
   have a:A4 (d::r)=true:=by simp only[A4,Bool.and_eq_true]at h|-;exact h.2
   have n:A4 r=true:=by simp only[A4,Bool.and_eq_true]at a;exact a.2
   have m:d=48\/d=49:=Jk h;have g:=Ki r n fun x f=>k x (by simp[f])
   simp only[Ct,if_true]
   rcases m with rfl|rfl
   .simp[esc,g]
   .simp[esc,g]
  .have a:A4 (d::r)=true:=by simp only[A4,Bool.and_eq_true]at h|-;exact h.2
   have g:=Ki (d::r) a k;simp only[Ct,Qs j,esc,Qs i];rw[g];rfl
theorem MI:∀(l:List UInt8),BH l=true->A4 l=true->Bl (CE l)=l
 |[],_,_=>by simp[CE,Bl]
 |c::r,h,b=>by
  have g:c=47:=by simpa[BH]using h
  subst g;have i:A4 r=true:=by simp only[A4,Bool.and_eq_true]at b;exact b.2
  have a:r.takeWhile Bc++r.dropWhile Bc=r:=List.takeWhile_append_dropWhile;obtain⟨d,e⟩:=GT (r.takeWhile Bc) (r.dropWhile Bc) (C7 r) (by rw[a];exact i);have f:=Ki _ d fun x j=>WV j
  have k:=MI (r.dropWhile Bc) (C7 r) e;rw[CE,Bl,f,k,Qo,a]
termination_by l=>l.length
decreasing_by simp;have:=(List.dropWhile_suffix (l:=r) Bc).sublist.length_le;omega
theorem GV:∀(p:List UInt8) (a:Option (Nat×Nat)),A4 p=true->Fw a (Ct p)=Fw a p
 |[],_,_=>rfl
 |[_],_,_=>rfl
 |c::d::r,a,h=>by
  by_cases e:c=126
  .subst e
   have b:A4 (d::r)=true:=by simp only[A4,Bool.and_eq_true]at h|-;exact h.2
   have g:A4 r=true:=by simp only[A4,Bool.and_eq_true]at b;exact b.2
   have f:d=48\/d=49:=Jk h;simp only[Ct,if_true]
   show Fw (Sk a _) (Ct r)=Fw (Sk (Sk a 126) d) r
   rw[GV r _ g]
   rcases f with rfl|rfl
   .rw[MX a 126 48 (by decide) (by decide)];rfl
   .rw[MX a 126 49 (by decide) (by decide),Qr rfl,XR a 47 126 (by decide) (by decide)]
  .have b:A4 (d::r)=true:=by simp only[A4,Bool.and_eq_true]at h|-;exact h.2
   simp only[Ct,Qs e]
   show Fw (Sk a c) (Ct (d::r))=Fw (Sk a c) (d::r)
   exact GV (d::r) _ b
theorem MQ:∀(l:List UInt8),BH l=true->A4 l=true->CY l=true->∀t∈CE l,CY t=true
 |[],_,_,_=>by simp[CE]
 |c::r,n,h,b=>by
  have k:c=47:=by simpa[BH]using n
  subst k;have o:A4 r=true:=by simp only[A4,Bool.and_eq_true]at h;exact h.2
  have a:r.takeWhile Bc++r.dropWhile Bc=r:=List.takeWhile_append_dropWhile;obtain⟨i,j⟩:=GT (r.takeWhile Bc) (r.dropWhile Bc) (C7 r) (by rw[a];exact o);rw[EQ _ _ (by decide)]at b
  have g:CY (r.takeWhile Bc)=true/\CY (r.dropWhile Bc)=true:=by
   cases f:r.dropWhile Bc with
   |nil=>rw[f,List.append_nil]at a;rw[a];exact⟨b,rfl⟩
   |cons d q=>
    have m:d=47:=by have:=C7 r;rw[f]at this;simpa[BH]using this
    subst m;rw[f]at a;rw[<-a,Jp _ _ _ (by decide),Bool.and_eq_true]at b;exact⟨b.1,by rw[EQ _ _ (by decide)];exact b.2⟩
  have p:=MQ (r.dropWhile Bc) (C7 r) j g.2;intro t e;rw[CE]at e
  rcases Qh.1 e with rfl|e
  .have:=g.1
   unfold CY at this|-;rw[GV _ _ i];exact this
  .exact p t e
termination_by l=>l.length
decreasing_by simp;have:=(List.dropWhile_suffix (l:=r) Bc).sublist.length_le;omega
theorem FW:∀(l:List UInt8),BH l=true->(CE l).length=l.count 47
 |[],_=>by simp[CE]
 |c::r,e=>by
  have d:c=47:=by simpa[BH]using e
  subst d;have g:=FW (r.dropWhile Bc) (C7 r);have b:r.takeWhile Bc++r.dropWhile Bc=r:=List.takeWhile_append_dropWhile
  have a:(r.takeWhile Bc).count 47=0:=by
   rw[List.count_eq_zero];intro f;have:=WV f;simp[Bc]at this
  have:r.count 47=(r.dropWhile Bc).count 47:=by
   conv=>lhs;rw[<-b,List.count_append,a,Nat.zero_add]
  rw[CE,Qj,g,List.count_cons,this];simp
termination_by l=>l.length
decreasing_by simp;have:=(List.dropWhile_suffix (l:=r) Bc).sublist.length_le;omega
theorem G6:∀(p:List UInt8),(Ct p).length<=p.length
 |[]=>by simp[Ct]
 |[_]=>by simp[Ct]
 |c::d::r=>by
  rw[Ct];split
  .have:=G6 r;simp;omega
  .have:=G6 (d::r);simp at this|-;omega
theorem OJ:∀(l:List UInt8) (t:List UInt8),t∈CE l->t.length<=l.length
 |[],t,h=>by simp[CE]at h
 |c::r,t,h=>by
  rw[CE]at h;have a:=(List.dropWhile_suffix (l:=r) Bc).sublist.length_le;have b:=(List.takeWhile_prefix (l:=r) Bc).sublist.length_le
  rcases Qh.1 h with rfl|h
  .have:=G6 (r.takeWhile Bc);simp;omega
  .have:=OJ _ t h;simp;omega
termination_by l=>l.length
decreasing_by simp;have:=(List.dropWhile_suffix (l:=r) Bc).sublist.length_le;omega
def AD(s:BY):Option (List BY):=
 if Al s=true/\BH s.data.toList=true/\A4 s.data.toList=true/\s.data.toList.count 47<=65536 then some ((CE s.data.toList).map fun t=>⟨t.toArray⟩)else none
def A6(ts:List BY):BY:=⟨(Bl (ts.map fun t=>t.data.toList)).toArray⟩
theorem DK{a b:BY}(h:a.data.toList=b.data.toList):a=b:=ByteArray.ext (Array.toList_inj.1 h)
theorem JZ{s:BY}{ts:List BY}(h:AD s=some ts):A6 ts=s:=by
 unfold AD at h;split at h
 .rename_i a
  injection h with h
  subst h;apply DK;unfold A6
  have e:(((CE s.data.toList).map fun t=>(⟨t.toArray⟩:BY)).map fun t=>t.data.toList)=CE s.data.toList:=by
   rw[List.map_map];exact(List.map_congr_left fun x _=>rfl).trans (List.map_id _)
  show(Bl _).toArray.toList=_
  rw[e];exact MI _ a.2.1 a.2.2.1
 .cases h
theorem Pn{s:BY}{ts:List BY}(h:AD s=some ts):∀t∈ts,Al t=true:=by
 unfold AD at h;split at h
 .rename_i a
  injection h with h
  subst h;intro t b;obtain⟨x,c,rfl⟩:=List.mem_map.1 b;rw[E8];exact MQ _ a.2.1 a.2.2.1 (by rw[<-E8];exact a.1) x c
 .cases h
theorem Lf{s:BY}{ts:List BY}(h:AD s=some ts):∀t∈ts,t.size<=s.size:=by
 unfold AD at h;split at h
 .rename_i c
  injection h with h
  subst h;intro t a;obtain⟨x,b,rfl⟩:=List.mem_map.1 a;have:=OJ _ x b
  show x.toArray.size<=s.data.size
  rw[List.size_toArray,<-Array.length_toList];exact this
 .cases h
theorem NK{s:BY}{ts:List BY}(h:AD s=some ts):ts.length<=65536:=by
 unfold AD at h;split at h
 .rename_i a
  injection h with h
  subst h;rw[List.length_map,FW _ a.2.1];exact a.2.2.2
 .cases h
def Fi(c:UInt8):Bool:=decide (48<=c.toNat/\c.toNat<=57)
def KK(l:List UInt8):Nat:=l.foldl (fun a c=>10*a+(c.toNat-48)) 0
def D5(l:List UInt8):Option Nat:=
 if l≠[]/\(1<l.length->l.head? ≠some 48)/\l.all Fi=true then some (KK l)else none
def bL(s:BY)(n:Nat):Option Nat:=match D5 s.data.toList with
 |some k=>if k<n then some k else none
 |none=>none
end
section
open Go.Lib
theorem Lm(l:List UInt8)(c:UInt8):KK (l++[c])=10*KK l+(c.toNat-48):=by
 unfold KK;rw[List.foldl_append];rfl
theorem UW(l:List UInt8)(a:Nat)(h:1<=a):1<=l.foldl (fun a c=>10*a+(c.toNat-48)) a:=by
 induction l generalizing a with
 |nil=>exact h
 |cons c l b=>
  simp only[List.foldl_cons];exact b _ (by omega)
theorem X6{l:List UInt8}(a:l.all Fi=true)(d:l≠[])(b:l.head? ≠some 48):1<=KK l:=by
 cases l with
 |nil=>exact absurd rfl d
 |cons c l=>
  refine UW l _ ?_;simp only[List.all_cons,Bool.and_eq_true,Fi,decide_eq_true_eq]at a;have:c≠48:=fun e=>b (by rw[e];rfl)
  have f:c.toNat≠48:=fun e=>this (UInt8.toNat_inj.1 (by rw[e];rfl))
  have g:(48:UInt8).toNat=48:=rfl
  show 1<=10*0+(c.toNat-48)
  omega
theorem Wr(k:Nat)(h:k<10):(UInt8.ofNat (48+k)).toNat=48+k:=by
 rw[UInt8.toNat_ofNat'];omega
theorem DV(k:Nat):decDigits k≠[]/\(decDigits k).all Fi=true/\KK (decDigits k)=k/\(1<=k->(decDigits k).head? ≠some 48)/\(k<10->(decDigits k).length=1):=by
 induction k using Nat.strongRecOn with
 |_ k i=>
  by_cases h:k<10
  .rw[decDigits,dif_pos h]
   have e:=Wr k h;refine⟨by simp, ?_, ?_, ?_,fun _=>rfl⟩
   .simp only[List.all_cons,List.all_nil,Bool.and_true,Fi,e];simp;omega
   .simp only[KK,List.foldl_cons,List.foldl_nil,e];omega
   .intro j a
    simp only[List.head?_cons,Option.some.injEq]at a;have:=congrArg UInt8.toNat a;rw[e]at this;have l:(48:UInt8).toNat=48:=rfl;omega
  .rw[decDigits,dif_neg h]
   obtain⟨c,d,f,g,_⟩:=i (k/10) (by omega);have e:=Wr (k % 10) (by omega);refine⟨by simp, ?_, ?_, ?_,fun a=>absurd a h⟩
   .rw[List.all_append,d];simp only[List.all_cons,List.all_nil,Bool.and_true,Fi,e,Bool.true_and];simp;omega
   .rw[Lm,f,e];omega
   .intro _
    rw[List.head?_append];have:=g (by omega)
    cases b:(decDigits (k/10)).head? with
    |none=>rw[List.head?_eq_none_iff]at b;exact absurd b c
    |some x=>rw[b]at this;simpa using this
theorem JU(k:Nat):D5 (decDigits k)=some k:=by
 obtain⟨b,c,d,e,f⟩:=DV k
 have a:1<(decDigits k).length->(decDigits k).head? ≠some 48:=by
  intro a;by_cases h:k<10
  .have:=f h;omega
  .exact e (by omega)
 unfold D5;rw[Qr ⟨b,a,c⟩,d]
theorem UQ(n:Nat):∀(l:List UInt8),l.length=n->l≠[]->(1<l.length->l.head? ≠some 48)->l.all Fi=true->decDigits (KK l)=l:=by
 induction n with
 |zero=>intro l e b;exact absurd (List.eq_nil_of_length_eq_zero e) b
 |succ n o=>
  intro l e b j a;obtain⟨p,c,rfl⟩:∃p c,l=p++[c]:=⟨l.dropLast,l.getLast b,(List.dropLast_concat_getLast b).symm⟩
  rw[List.all_append,Bool.and_eq_true]at a;have r:48<=c.toNat/\c.toNat<=57:=by simpa[Fi]using a.2
  have f:UInt8.ofNat (48+(c.toNat-48))=c:=by
   rw[show 48+(c.toNat-48)=c.toNat from by omega];exact UInt8.ofNat_toNat
  rw[Lm];by_cases d:p=[]
  .subst d
   rw[show KK []=0 from rfl,decDigits,dif_pos (by omega)];simp only[Nat.mul_zero,Nat.zero_add,List.nil_append];rw[f]
  .have k:p.length=n:=by simpa using e
   have s:0<p.length:=List.length_pos_iff.2 d
   have g:p.head? ≠some 48:=by
    have:=j (by simp;omega);rw[List.head?_append]at this
    cases m:p.head? with
    |none=>simp
    |some x=>rw[m]at this;simpa using this
   have q:=X6 a.1 d g;rw[decDigits,dif_neg (by omega)];have h:(10*KK p+(c.toNat-48))/10=KK p:=by omega
   have i:(10*KK p+(c.toNat-48)) % 10=c.toNat-48:=by omega
   rw[h,i,f,o p k d (fun _=>g) a.1]
theorem Gi{l:List UInt8}{k:Nat}:D5 l=some k↔l=decDigits k:=by
 constructor
 .intro h
  unfold D5 at h;split at h
  .rename_i a
   injection h with h
   rw[<-h];exact(UQ l.length l rfl a.1 a.2.1 a.2.2).symm
  .cases h
 .rintro rfl;exact JU k
theorem GN{s:BY}{n k:Nat}:bL s n=some k↔s.data.toList=decDigits k/\k<n:=by
 unfold bL
 cases h:D5 s.data.toList with
 |none=>
  simp only[false_iff,reduceCtorEq];rintro⟨a,_⟩;rw[Gi.2 a]at h;cases h
 |some j=>
  have c:=Gi.1 h;simp only;split
  .constructor
   .intro e;injection e with e;subst e;exact⟨c,by assumption⟩
   .rintro⟨a,b⟩
    rw[Gi.2 a]at h;rw[h]
  .simp only[false_iff,reduceCtorEq]
   rintro⟨a,b⟩;rw[Gi.2 a]at h
   injection h with h
   omega
theorem Jf{s:BY}{n k:Nat}(h:bL s n=some k):k<n:=(GN.1 h).2
end
section
open Utf
theorem QK:∀(t:List UInt8),∀c∈esc t,Bc c=true
 |[],c,h=>by cases h
 |a::t,c,h=>by
  rw[esc]at h
  rcases Qf.1 h with h|h
  .by_cases d:a=126
   .rw[Qr d]at h;simp at h;rcases h with rfl|rfl<;>decide
   .rw[Qs d]at h
    by_cases b:a=47
    .rw[Qr b]at h;simp at h;rcases h with rfl|rfl<;>decide
    .rw[Qs b]at h;simp at h;subst h;simpa[Bc]using b
  .exact QK t c h
theorem QJ(t:List UInt8):∀(b:List UInt8),A4 b=true->A4 (esc t++b)=true:=by
 induction t with
 |nil=>intro b d;exact d
 |cons a t f=>
  intro b d;rw[esc,List.append_assoc];have h:=f b d;by_cases c:a=126
  .rw[Qr c];simp[A4,h]
  .rw[Qs c]
   by_cases e:a=47
   .rw[Qr e];simp[A4,h]
   .rw[Qs e];simp[A4,h,c]
theorem T3{c:UInt8}(r:List UInt8)(h:c≠126):Ct (c::r)=c::Ct r:=by
 cases r with
 |nil=>rfl
 |cons d r=>rw[Ct,Qs h]
theorem OM(t:List UInt8):Ct (esc t)=t:=by
 induction t with
 |nil=>rfl
 |cons a t c=>
  rw[esc];by_cases b:a=126
  .subst b;simp[Ct,c]
  .rw[Qs b]
   by_cases d:a=47
   .subst d;simp[Ct,c]
   .rw[Qs d,List.singleton_append,T3 _ b,c]
theorem JJ(ts:List (List UInt8)):BH (Bl ts)=true:=by cases ts<;>simp[Bl,BH]
theorem Rr(ts:List (List UInt8)):A4 (Bl ts)=true:=by
 induction ts with
 |nil=>rfl
 |cons t l a=>
  rw[Bl,Qo,A4,QJ t _ a];simp
theorem VY{p:UInt8->Bool}{a b:List UInt8}(h:∀c∈a,p c=true)(g:b=[]\/∃c r,b=c::r/\p c=false):(a++b).takeWhile p=a/\(a++b).dropWhile p=b:=by
 induction a with
 |nil=>
  rcases g with rfl|⟨c,r,rfl,d⟩
  .exact⟨rfl,rfl⟩
  .simp[List.takeWhile,List.dropWhile,d]
 |cons c a j=>
  obtain⟨e,f⟩:=j fun x i=>h x (by simp[i])
  have d:=h c (by simp);simp only[Qo,List.takeWhile_cons,List.dropWhile_cons,d,if_true,e,f,true_and]
theorem MH(ts:List (List UInt8)):Bl ts=[]\/∃c r,Bl ts=c::r/\Bc c=false:=by
 cases ts with
 |nil=>exact .inl rfl
 |cons t l=>exact .inr ⟨47,_,rfl,rfl⟩
theorem M8(ts:List (List UInt8)):CE (Bl ts)=ts:=by
 induction ts with
 |nil=>simp[Bl,CE]
 |cons t l c=>
  rw[Bl,Qo,CE];obtain⟨a,b⟩:=VY (p:=Bc) (QK t) (MH l);rw[a,b,OM,c]
theorem XH(t:List UInt8):∀a,Fw a (esc t)=Fw a t:=by
 intro a;have h:=GV (esc t) a (by have:=QJ t [] rfl;simpa using this);rw[OM]at h;exact h.symm
theorem Pw(ts:List (List UInt8))(h:∀t∈ts,CY t=true):CY (Bl ts)=true:=by
 induction ts with
 |nil=>rfl
 |cons t l j=>
  have a:=j fun x i=>h x (by simp[i])
  have d:CY (esc t)=true:=by
   have:=h t (by simp);unfold CY at this|-;rw[XH];exact this
  rw[Bl,Qo,EQ _ _ (by decide)]
  cases b:l with
  |nil=>simpa[Bl]using d
  |cons u m=>
   rw[<-b];obtain⟨c,r,e,f⟩:=(MH l).resolve_left (by rw[b];simp[Bl]);have g:c=47:=by simpa[Bc]using f
   subst g;rw[e,Jp _ _ _ (by decide),d];rw[e,EQ _ _ (by decide)]at a;simpa using a
theorem QB(ts:List (List UInt8)):(Bl ts).count 47=ts.length:=by
 rw[<-FW _ (JJ ts),M8]
theorem FT{ts:List BY}(h:∀t∈ts,Al t=true)(a:ts.length<=65536):AD (A6 ts)=some ts:=by
 have e:(A6 ts).data.toList=Bl (ts.map fun t=>t.data.toList):=rfl;unfold AD;rw[E8,e,Qr ⟨Pw _ (fun t b=>by obtain⟨u,c,rfl⟩:=List.mem_map.1 b;rw[<-E8];exact h u c),JJ _,Rr _,by rw[QB,List.length_map];exact a⟩,M8,List.map_map]
 congr 1
 exact(List.map_congr_left fun x _=>rfl).trans (List.map_id _)
end
end Ptr

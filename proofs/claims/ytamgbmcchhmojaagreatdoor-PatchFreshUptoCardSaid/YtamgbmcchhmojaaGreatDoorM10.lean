/- Part 10 of the proof of patchFresh_card. -/
import Derived.Test.YtamgbmcchhmojaaGreatDoorM09
set_option maxRecDepth 100000
set_option maxHeartbeats 32000000
set_option linter.all false
namespace Go.Proofs.YtamgbmcchhmojaaGreatDoor
open Go renaming TypeId->Ti,Value->Vl,World->Wl
open Go.Value renaming agg->nA,iface->nF,int->nI,pointer->nP,slice->nS,string->nG
open Go.IntKind renaming i64->nX
open Go.Ending renaming returned->nR
open Go.Obj renaming cells->nC
open Option renaming none->nN,some->nM
section
open Go Go.RowKit Tree Ptr
structure CW where
 kind:Nat
 path:BY
 frm:BY
 steps:List Aw
structure Bq where
 kind:Int
 path:BY
 frm:BY
 steps:List Ap
def IN:BY:=⟨#[45]⟩
def C4(ks:List BY)(s:BY):Bool:=ks.any fun k=>decide (k=s)
theorem Cp{ks:List BY}{s:BY}:C4 ks s=true↔s∈ks:=by
 unfold C4;simp
def D6:Tr->BY->Option Nat
 | .list l,s=>bL s l.length
 | .obj ks _,s=>if C4 ks s=true then nM (A5 ks s)else nN
 |_,_=>nN
def Dy(t:Tr)(s:BY):Option Tr:=(D6 t s).bind fun i=>(Ab t)[i]?
def Ah:Tr->List BY->Option Tr
 |t,[]=>nM t
 |t,s::r=>(Dy t s).bind fun u=>Ah u r
def AW:Tr->List Tr->Tr
 | .list _,m=> .list m
 | .obj ks _,m=> .obj ks m
 |t,_=>t
def Bz(f:Tr->Tr):Tr->List BY->Tr
 |t,[]=>f t
 |t,s::r=>match D6 t s with
  |some i=>match(Ab t)[i]? with
   |some u=>AW t ((Ab t).set i (Bz f u r))
   |none=>t
  |none=>t
def CT(s:BY)(t:Tr):Tr:=match D6 t s with
 |some i=>match t with
  | .list l=> .list (l.eraseIdx i)
  | .obj ks l=> .obj (ks.eraseIdx i) (l.eraseIdx i)
  |t=>t
 |none=>t
def Cj(s:BY)(x:Tr):Tr->Tr
 | .list l=>if s=IN then .list (l++[x])else match bL s (l.length+1)with
  |some i=> .list (l.insertIdx i x)
  |none=> .list l
 | .obj ks l=>if C4 ks s=true then .obj ks (l.set (A5 ks s) x)else D1 (ks++[s]) (l++[x])
 |t=>t
def AH(ts:List BY):BY:=ts.getLastD Dz
def At(t:Tr)(ts:List BY)(x:Tr):Tr:=if ts=[]then x else Bz (Cj (AH ts) x) t ts.dropLast
def AE(t:Tr)(ts:List BY)(x:Tr):Tr:=Bz (fun _=>x) t ts
def A8(t:Tr)(ts:List BY):Tr:=Bz (CT (AH ts)) t ts.dropLast
def Gg(s:BY):Tr->Nat
 | .obj _ _=>0
 | .list l=>if s=IN then 0 else match D5 s.data.toList with
  |none=>172
  |some k=>if k<l.length+1 then 0 else 4
 |_=>5
def EN(t:Tr)(ts:List BY):Nat:=if ts=[]then 0 else match Ah t ts.dropLast with
 |none=>4
 |some p=>Gg (AH ts) p
def Eo(s:BY):Tr->BY
 | .list l=>if s=IN then⟨(Go.Lib.decDigits l.length).toArray⟩else s
 |_=>s
def GF(a:List BY)(s:BY)(p:Tr):CW:=match p with
 | .obj ks l=>if C4 ks s=true then⟨3,A6 (a++[s]),Dz,Ai (l.getD (A5 ks s) .null)⟩else⟨2,A6 (a++[s]),Dz,[]⟩
 |p=>⟨2,A6 (a++[Eo s p]),Dz,[]⟩
def Dd(t:Tr)(ts:List BY):CW:=if ts=[]then⟨3,Dz,Dz,Ai t⟩else
 GF ts.dropLast (AH ts) ((Ah t ts.dropLast).getD .null)
def AS(l:List Ap):Option Tr:=if l.length<=65536 then CA l else nN
def AO(k:Int):Bool:=decide (k=4)||decide (k=5)
def AN(k:Int):Bool:=decide (k=1)||decide (k=3)||decide (k=6)
def Bn(o:Bq):Nat:=
 if o.kind<1\/6<o.kind then 170
 else if AD o.path=nN\/(AO o.kind=true/\AD o.frm=nN)then 171
 else if AN o.kind=true/\(AS o.steps).isNone=true then 174 else 0
mutual
def BQ:Tr->Tr->Bool
 | .null,.null=>true
 | .flag a,.flag b=>a==b
 | .num a,.num b=>decide (a=b)
 | .text a,.text b=>decide (a=b)
 | .list a,.list b=>ER a b
 | .obj ks a,.obj ls b=>decide (ks=ls)&&ER a b
 |_,_=>false
def ER:List Tr->List Tr->Bool
 |[],[]=>true
 |a::l,b::m=>BQ a b&&ER l m
 |_,_=>false
end
variable{o:Bq}{l:List Bq}{u:List CW}{i k:Nat}{d t:Tr}
inductive PV where
 |no (e:Nat)
 |yes (t:Tr) (undo:List CW)
def Kj(t:Tr)(a:List CW):PV:=if(Ag t).within=true then .yes t a else .no 3
def Ga(t:Tr)(ts:List BY)(x:Tr)(a:List CW):PV:=
 if EN t ts≠0 then .no (EN t ts)else Kj (At t ts x) (Dd t ts::a)
def EV(a b:BY):Bool:=(b.data.toList++[47]).isPrefixOf a.data.toList
def Da(t:Tr)(o:Bq)(path frm:List BY)(x:Tr):PV:=
 if o.kind=1 then Ga t path x []
 else if o.kind=2 then(if path=[]then .no 176 else match Ah t path with
  |none=> .no 4
  |some u=> .yes (A8 t path) [⟨1,A6 path,Dz,Ai u⟩])
 else if o.kind=3 then(match Ah t path with
  |none=> .no 4
  |some u=>Kj (AE t path x) [⟨3,A6 path,Dz,Ai u⟩])
 else if o.kind=4 then(if EV o.path o.frm=true then .no 175 else match Ah t frm with
  |none=> .no 4
  |some u=>if o.path=o.frm then .yes t []else Ga (A8 t frm) path u [⟨1,A6 frm,Dz,Ai u⟩])
 else if o.kind=5 then(match Ah t frm with
  |none=> .no 4
  |some u=>Ga t path u [])
 else(match Ah t path with
  |none=> .no 4
  |some u=>if BQ u x=true then .yes t []else .no 173)
def Gz(t:Tr)(o:Bq):PV:=
 if Bn o≠0 then .no (Bn o)else Da t o ((AD o.path).getD []) ((AD o.frm).getD []) ((AS o.steps).getD .null)
inductive Zi where
 |no (e:Nat) (at_:Nat)
 |yes (t:Tr) (undo:List CW)
def BR:Tr->List CW->Nat->List Bq->Zi
 |t,u,_,[]=> .yes t u
 |t,u,i,o::l=>match Gz t o with
  | .no e=> .no e i
  | .yes a v=>BR a (v++u) (i+1) l
theorem Vu{f v:List CW}{s:Tr}(h:BR t u i (l.take k)= .yes d f)(b:l[k]? =nM o)(m:Gz d o= .yes s v):
  BR t u i (l.take (k+1))= .yes s (v++f):=by
 induction l generalizing t u i k with
 |nil=>simp at b
 |cons a l n=>
  cases k with
  |zero=>
   simp only[List.take_zero,BR]at h;injection h with g j
   simp at b;subst g;subst j;subst b;simp[BR,m]
  |succ k=>
   simp only[List.take_succ_cons,BR]at h|-;cases c:Gz t a with
   |no e=>rw[c]at h;cases h
   |yes p q=>
    rw[c]at h;exact n h (by simpa using b)
theorem Us{n:List CW}{e:Nat}(h:BR t u i (l.take k)= .yes d n)(b:l[k]? =nM o)(j:Gz d o= .no e):
  BR t u i l= .no e (i+k):=by
 induction l generalizing t u i k with
 |nil=>simp at b
 |cons a l m=>
  cases k with
  |zero=>
   simp only[List.take_zero,BR]at h;injection h with f g
   simp at b;subst f;subst g;subst b;simp[BR,j]
  |succ k=>
   simp only[List.take_succ_cons,BR]at h|-;cases c:Gz t a with
   |no e=>rw[c]at h;cases h
   |yes p q=>
    rw[c]at h;have:=m h (by simpa using b);rw[Nat.add_assoc,Nat.add_comm 1 k]at this;simp only;exact this
mutual
theorem yA{p:Prop}(h:p:=by cases b<;>simp[BQ]):p:=h
theorem KG:∀(a b:Tr),BQ a b=true↔a=b
 | .null,b=>yA
 | .flag a,b=>yA
 | .num a,b=>yA
 | .text a,b=>yA
 | .list a,b=>by
  cases b with
  |list m=>simp only[BQ,Gq a m];exact⟨fun h=>by rw[h],fun h=>by injection h⟩
  |_=>simp[BQ]
 | .obj ks a,b=>by
  cases b with
  |obj ls m=>simp only[BQ,Bool.and_eq_true,decide_eq_true_eq,Gq a m];exact⟨fun h=>by rw[h.1,h.2],fun h=>by injection h with h1 h2;exact⟨h1,h2⟩⟩
  |_=>simp[BQ]
theorem Gq:∀(a b:List Tr),ER a b=true↔a=b
 |[],b=>by cases b<;>simp[ER]
 |t::a,b=>by
  cases b with
  |nil=>simp[ER]
  |cons u m=>simp only[ER,Bool.and_eq_true,KG t u,Gq a m,List.cons.injEq]
end
variable{s:BY}{ks r ts:List BY}{l:List Tr}{i k:Nat}{p t u v x:Tr}{f:Tr->Tr}{a:Type}
theorem CZ{l:List a}{u:a}(h:l[i]? =nM u)(x:a):l=l.take i++u::l.drop (i+1)/\l.set i x=l.take i++x::l.drop (i+1):=by
 obtain⟨hi,rfl⟩:=Qc.1 h;refine⟨?_, ?_⟩
 .rw[List.getElem_cons_drop,List.take_append_drop]
 .rw[List.set_eq_take_append_cons_drop,Qr hi]
theorem C6(l:List a)(i:Nat):l.eraseIdx i=l.take i++l.drop (i+1):=List.eraseIdx_eq_take_drop_succ l i
theorem AQ{b:Type}(l:List b)(i:Nat)(h:i<=l.length)(x:b):l.insertIdx i x=l.take i++x::l.drop i:=by
 induction l generalizing i with
 |nil=>simp at h;subst h;rfl
 |cons a l c=>
  cases i with
  |zero=>rfl
  |succ i=>simp only[List.insertIdx_succ_cons,List.take_succ_cons,List.drop_succ_cons,Qo,c i (by simpa using h)]
theorem Kb(a b:List Tr)(x:Tr):Bk (a++x::b)=(Ag x).add (Bk (a++b)):=by
 have:(a++x::b).Perm (x::(a++b)):=List.perm_middle;rw[Sn this];rfl
theorem Kc(h:l[i]? =nM u)(x:Tr):Bk l=(Ag u).add (Bk (l.eraseIdx i))/\Bk (l.set i x)=(Ag x).add (Bk (l.eraseIdx i)):=by
 obtain⟨a,b⟩:=CZ h x;rw[C6,b];refine⟨?_,Kb _ _ _⟩;conv=>lhs;rw[a]
 exact Kb _ _ _
theorem TX(l:List Tr)(i:Nat)(h:i<=l.length)(x:Tr):Bk (l.insertIdx i x)=(Ag x).add (Bk l):=by
 rw[AQ l i h,Kb,List.take_append_drop]
theorem Hx(a b:List BY):Ay (a++b)=Ay a+Ay b:=by unfold Ay;simp
theorem IW(h:ks[i]? =nM s):Ay ks=s.size+Ay (ks.eraseIdx i):=by
 obtain⟨a,_⟩:=CZ h s;rw[C6];conv=>lhs;rw[a]
 simp[Ay];omega
structure Eg(a a' u u':Sz)(k:Nat):Prop where
 nodes:a'.nodes+u.nodes=a.nodes+u'.nodes
 bytes:a'.bytes+u.bytes=a.bytes+u'.bytes
 up:a'.depth<=max a.depth (k+u'.depth)
 low:k+u'.depth<=a'.depth
theorem Eg.here(u a:Sz):Eg u a u a 0:=⟨Zj,Zj,Zj,Zj⟩
theorem IA(h:D6 t s=nM i):(∃l,t= .list l)\/(∃ks l,t= .obj ks l):=by
 cases t with
 |list l=>exact .inl ⟨l,rfl⟩
 |obj ks l=>exact .inr ⟨ks,l,rfl⟩
 |_=>simp[D6]at h
theorem Eg.set{v':Tr}{u a:Sz}(f:D6 t s=nM i)(h:(Ab t)[i]? =nM v)(g:Eg (Ag v) (Ag v') u a k):
  Eg (Ag t) (Ag (AW t ((Ab t).set i v'))) u a (k+1):=by
 obtain⟨d,e⟩:=Kc h v'
 have c:∀b,Eg ((Bk (Ab t)).over b) ((Bk ((Ab t).set i v')).over b) u a (k+1):=by
  intro b;rw[d,e];have:=g.nodes;have:=g.bytes;have:=g.up;have:=g.low;constructor<;>simp only[Sz.add,Sz.over]<;>omega
 rcases IA f with⟨l,rfl⟩|⟨ks,l,rfl⟩
 .simp only[AW,Ab,Ag];exact c 0
 .simp only[AW,Ab,Ag];exact c _
theorem Km(h:Dy t s=nM u):∃i,D6 t s=nM i/\(Ab t)[i]? =nM u:=by
 unfold Dy at h;cases a:D6 t s with
 |none=>rw[a]at h;cases h
 |some i=>rw[a]at h;exact⟨i,rfl,h⟩
theorem CC(h:Ah t (s::r)=nM u):∃i v,D6 t s=nM i/\(Ab t)[i]? =nM v/\Ah v r=nM u:=by
 unfold Ah at h;cases a:Dy t s with
 |none=>rw[a]at h;cases h
 |some v=>
  rw[a]at h;obtain⟨i,b,c⟩:=Km a;exact⟨i,v,b,c,h⟩
theorem BF(a:D6 t s=nM i)(b:(Ab t)[i]? =nM v):Bz f t (s::r)=AW t ((Ab t).set i (Bz f v r)):=by
 simp only[Bz,a,b]
theorem Gh:∀{ts:List BY} {t:Tr} {s:BY},Bz f t (ts++[s])=Bz (fun u=>Bz f u [s]) t ts
 |[],t,s=>rfl
 |a::r,t,s=>by
  simp only[Qo,Bz];cases D6 t a with
  |none=>rfl
  |some i=>
   simp only;cases (Ab t)[i]? with
   |none=>rfl
   |some u=>simp only;rw[Gh];rfl
theorem BW:∀{ts:List BY} {t:Tr} {s:BY},Ah t (ts++[s])=(Ah t ts).bind fun u=>Dy u s
 |[],t,s=>by simp[Ah]
 |a::r,t,s=>by
  simp only[Qo,Ah];cases Dy t a with
  |none=>rfl
  |some u=>simp only[Option.bind_some];exact BW
theorem Eg.mod:∀{t u:Tr},Ah t ts=nM u->∀{a b:Sz} {k:Nat},Eg (Ag u) (Ag (f u)) a b k->Eg (Ag t) (Ag (Bz f t ts)) a b (k+ts.length):=by
 induction ts with
 |nil=>intro t u h a b k g;simp only[Ah]at h;injection h with h;subst h;simpa[Bz]using g
 |cons s r j=>
  intro t u h a b k g;obtain⟨i,v,c,d,e⟩:=CC h;rw[BF c d];have:=(j e g).set c d;rw[Qj,<-Nat.add_assoc];exact this
theorem XM(h:Ah t ts=nM u):Eg (Ag t) (Ag (AE t ts x)) (Ag u) (Ag x) ts.length:=by
 have:=Eg.mod (f:=fun _=>x) h (Eg.here (Ag u) (Ag x));simpa[AE]using this
theorem yB{p:Prop}(h:p:=by rw[decide_eq_decide];omega):p:=h
theorem PM{a c u b:Sz}(g:Eg a c u b k)(d:a.within=true):
  c.within=(decide (a.nodes+b.nodes-u.nodes<=65536)&&decide (a.bytes+b.bytes-u.bytes<=2097152)&&decide (k+b.depth<=512)):=by
 have h:=Ar d;have:=g.nodes;have:=g.bytes;have:=g.up;have:=g.low;unfold Sz.within
 congr 1
 .congr 1
  .exact yB
  .exact yB
 .exact yB
theorem CL(ts:List BY)(h:ts≠[]):ts.dropLast++[AH ts]=ts:=by
 unfold AH;rw[List.getLastD_eq_getLast?,List.getLast?_eq_some_getLast h,Option.getD_some];exact List.dropLast_concat_getLast h
theorem Ys(h:¬C4 ks s=true):s∉ks:=fun g=>h (Cp.2 g)
theorem VA(q:Av p)(d:Gg s p=0)(y:∀ks l,p= .obj ks l->C4 ks s=false)(b:Nat)(j:b=match p with| .obj _ _=>s.size|_=>0):
  (Ag (Cj s x p)).nodes=(Ag p).nodes+(Ag x).nodes/\(Ag (Cj s x p)).bytes=(Ag p).bytes+(Ag x).bytes+b/\(Ag (Cj s x p)).depth<=max (Ag p).depth (1+(Ag x).depth)/\1+(Ag x).depth<=(Ag (Cj s x p)).depth:=by
 cases p with
 |list l=>
  simp only at j;subst j
  have r:∀m:List Tr,Bk m=(Ag x).add (Bk l)->(Ag (.list m)).nodes=(Ag (.list l)).nodes+(Ag x).nodes/\(Ag (.list m)).bytes=(Ag (.list l)).bytes+(Ag x).bytes+0/\(Ag (.list m)).depth<=max (Ag (.list l)).depth (1+(Ag x).depth)/\1+(Ag x).depth<=(Ag (.list m)).depth:=by
   intro m d;simp only[Ag,d,Sz.over,Sz.add];omega
  simp only[Cj];by_cases n:s=IN
  .rw[Qr n];exact r _ (by rw[show l++[x]=l++x::[]from rfl,Kb,List.append_nil])
  .rw[Qs n];simp only[Gg,Qs n]at d;cases hi:bL s (l.length+1)with
   |none=>
    exfalso
    unfold bL at hi;cases f:D5 s.data.toList with
    |none=>rw[f]at d;simp at d
    |some k=>
     rw[f]at hi d;simp only at hi d;split at hi
     .cases hi
     .rename_i w;rw[Qs w]at d;cases d
   |some i=>
    have:=Jf hi;exact r _ (TX l i Zj x)
 |obj ks l=>
  simp only at j;subst j;have f:=y ks l rfl;simp only[Av]at q;obtain⟨t,u,_⟩:=q;have B:s∉ks:=fun g=>by rw[Cp.2 g]at f;cases f
  have z:ks.Nodup:=t.rise.imp fun{a b} h e=>by subst e;have:=Utf.Gc a;omega
  have A:(ks++[s]).Nodup:=by
   rw[List.nodup_append];exact⟨z,Zh,fun a v c o=>by simp at o;subst o;exact fun e=>B (e▸v)⟩
  simp only[Cj];rw[Qs (by rw[f];simp),Kd A (by simp[u]),Hx,show l++[x]=l++x::[]from rfl,Kb,List.append_nil];simp only[Ag,Sz.over,Sz.add,Ay,List.map_cons,List.map_nil,List.sum_cons,List.sum_nil];omega
 |_=>simp[Gg]at d
theorem Cy.nodup(h:Cy ks):ks.Nodup:=h.rise.imp fun{a b} h e=>by subst e;have:=Utf.Gc a;omega
theorem Cy.sort(h:Cy ks):AY ks=ks:=by
 refine DU (fun s=>s) (DG ks) (Cs (fun s=>s) ks) (h.rise.imp fun{a b} h=>(DW (fun s=>s)).2 Zj) fun _ _ _ _ h=>h
theorem yu{p:Prop}(h:p:=by simpa using a):p:=h
theorem On(d:ks.Nodup)(c:ks.length=l.length):(ks.map fun s=>l.getD (A5 ks s) .null)=l:=by
 apply List.ext_getElem
 .rw[List.length_map,c]
 .intro i a b;rw[List.getElem_map,GU d i yu,List.getD_eq_getElem?_getD,Q9 b];rfl
theorem Cy.objT(h:Cy ks)(a:ks.length=l.length):D1 ks l= .obj ks l:=by
 unfold Tree.D1 LA;rw[h.sort,On h.nodup a]
theorem Lh(l:List a)(i:Nat)(h:i<=l.length)(x:a):(l.insertIdx i x).Perm (x::l):=by
 rw[AQ l i h];conv=>rhs;rw[<-List.take_append_drop i l]
 exact List.perm_middle
theorem If(h:Cy ks)(m:ks.length=l.length)(z:s∉ks)(hi:i<=ks.length)(p:∀t k,t<i->ks[t]? =nM k->Utf.BK k s<0)(q:∀t k,i<=t->ks[t]? =nM k->0<=Utf.BK k s):
  D1 (ks++[s]) (l++[x])= .obj (ks.insertIdx i s) (l.insertIdx i x):=by
 have w:(ks++[s]).Nodup:=by
  rw[List.nodup_append];exact⟨h.nodup,Zh,fun a f c o=>by simp at o;subst o;exact fun e=>z (e▸f)⟩
 have y:(AY (ks++[s])).Perm (ks.insertIdx i s):=
  (DG _).trans ((List.perm_append_comm (l₁:=ks) (l₂:=[s])).trans (Lh ks i hi s).symm)
 have A:AY (ks++[s])=ks.insertIdx i s:=by
  refine DU (fun s=>s) y (Cs (fun s=>s) _) ?_ fun _ _ _ _ h=>h;rw[AQ ks i hi,List.pairwise_append,List.pairwise_cons];have g:=h.rise;rw[<-List.take_append_drop i ks,List.pairwise_append]at g;refine⟨g.1.imp fun{a b} h=>(DW (fun s=>s)).2 Zj,⟨fun a f=> ?_,g.2.1.imp fun{a b} h=>(DW (fun s=>s)).2 Zj⟩,fun a f b j=> ?_⟩
  .obtain⟨t,d⟩:=List.mem_iff_getElem?.1 f;rw[List.getElem?_drop]at d;refine(DW (fun s=>s)).2 ?_;rw[Utf.Ej a s];have:=q _ a Zj d;omega
  .have B:Utf.BK a s<0:=by
    obtain⟨t,d⟩:=List.mem_iff_getElem?.1 f;rw[List.getElem?_take]at d;split at d
    .exact p t a (by assumption) d
    .cases d
   refine(DW (fun s=>s)).2 ?_;rcases Qh.1 j with rfl|j
   .omega
   .exact Int.le_of_lt (g.2.2 a f b j)
 have n:=On (ks:=ks++[s]) (l:=l++[x]) w (by simp[m]);rw[List.map_append]at n;have r:(ks.map fun k=>(l++[x]).getD (A5 (ks++[s]) k) .null)=l:=(List.append_inj n (by simp[m])).1;have u:([s].map fun k=>(l++[x]).getD (A5 (ks++[s]) k) .null)=[x]:=(List.append_inj n (by simp[m])).2;unfold Tree.D1 LA;rw[A]
 congr 1
 rw[AQ ks i hi,AQ l i Zj,List.map_append,List.map_cons];have v:(l++[x]).getD (A5 (ks++[s]) s) .null=x:=(List.cons.inj u).1;rw[List.map_take,List.map_drop,r,v]
theorem Av.items(h:Av t):∀u∈Ab t,Av u:=by
 cases t with
 |list l=>exact Cu.1 h
 |obj ks l=>exact Cu.1 h.2.2
 |_=>intro u a;simp[Ab]at a
theorem Av.lead:∀{t u:Tr},Av t->Ah t ts=nM u->Av u:=by
 induction ts with
 |nil=>intro t u h a;simp only[Ah]at a;injection a with a;exact a▸h
 |cons s r d=>
  intro t u h a;obtain⟨i,v,e,b,c⟩:=CC a;exact d (h.items v (Qi b)) c
theorem Kk(h:KO l)(i:Nat)(b:Av x):KO (l.set i x):=by
 rw[Cu]at h|-;intro t a;rcases List.mem_or_eq_of_mem_set a with a|rfl
 .exact h t a
 .exact b
theorem Av.withSet(h:Av t)(i:Nat)(a:Av x):Av (AW t ((Ab t).set i x)):=by
 cases t with
 |list l=>simp only[AW,Ab,Av]at h|-;exact Kk h i a
 |obj ks l=>simp only[AW,Ab,Av]at h|-;exact⟨h.1,by rw[List.length_set];exact h.2.1,Kk h.2.2 i a⟩
 |_=>exact h
theorem Av.mod:∀{t u:Tr},Av t->Ah t ts=nM u->Av (f u)->Av (Bz f t ts):=by
 induction ts with
 |nil=>intro t u h a b;simp only[Ah]at a;injection a with a;subst a;exact b
 |cons s r g=>
  intro t u h a b;obtain⟨i,v,d,c,e⟩:=CC a;rw[BF d c];exact h.withSet i (g (h.items v (Qi c)) e b)
theorem Cy.erase(h:Cy ks)(i:Nat):Cy (ks.eraseIdx i):=by
 have a:=List.eraseIdx_sublist ks i;exact⟨fun s b=>h.right s (a.subset b),fun s b=>h.small s (a.subset b),h.rise.sublist a,Q7 a.length_le h.many⟩
theorem Av.cut(h:Av p):Av (CT s p):=by
 unfold CT;cases b:D6 p s with
 |none=>exact h
 |some i=>
  cases p with
  |list l=>
   simp only[Av]at h|-;rw[Cu]at h|-;exact fun t a=>h t ((List.eraseIdx_sublist l i).subset a)
  |obj ks l=>
   simp only[Av]at h|-;refine⟨h.1.erase i, ?_, ?_⟩
   .rw[List.length_eraseIdx,List.length_eraseIdx,h.2.1]
   .have:=Cu.1 h.2.2;exact Cu.2 fun t a=>this t ((List.eraseIdx_sublist l i).subset a)
  |_=>exact h
theorem Av.add(h:Av p)(f:Av x)(r:Utf.Al s=true)(v:s.size<=2147483648)(q:(Ab p).length<65536):Av (Cj s x p):=by
 cases p with
 |list l=>
  simp only[Cj];have j:∀u∈l,Av u:=Cu.1 h;split
  .simp only[Av]
   exact Cu.2 fun t b=>by
    rcases Qf.1 b with b|b
    .exact j t b
    .simp at b;subst b;exact f
  .split
   .rename_i i hi;simp only[Av]
    exact Cu.2 fun t b=>by
     rcases Qh.1 ((Lh l i (by have:=Jf hi;omega) x).mem_iff.1 b)with rfl|b
     .exact f
     .exact j t b
   .exact h
 |obj ks l=>
  simp only[Cj];simp only[Av]at h;split
  .simp only[Av];exact⟨h.1,by rw[List.length_set];exact h.2.1,Kk h.2.2 _ f⟩
  .rename_i d;have d:=Ys d
   have m:(ks++[s]).Nodup:=by
    rw[List.nodup_append];exact⟨h.1.nodup,Zh,fun a n c g=>by simp at g;subst g;exact fun e=>d (e▸n)⟩
   have o:(ks++[s]).length=(l++[x]).length:=by simp[h.2.1]
   unfold Tree.D1;simp only[Av];refine⟨KY ?_ ?_ ?_ m,by rw[A3,DD],Cu.2 fun t b=> ?_⟩
   .intro k d;rcases Qf.1 d with d|d
    .exact h.1.right k d
    .simp at d;subst d;exact r
   .intro k d;rcases Qf.1 d with d|d
    .exact h.1.small k d
    .simp at d;subst d;exact v
   .simp only[Ab]at q;simp;omega
   .have b:=(Ku m o).mem_iff.1 b;rcases Qf.1 b with b|b
    .exact Cu.1 h.2.2 t b
    .simp at b;subst b;exact f
 |_=>simp only[Cj];exact h
def AG:Tr->Vl
 | .null=> nF 188 (nA #[])
 | .flag b=> nF 189 (.bool b)
 | .num n=> nF 190 (.float .f64 n)
 | .text s=> nF 127 (nG s)
 |_=> .nilIface
mutual
def AP (w:Wl):Tr->Vl->List Nat->Prop
 | .list l,v,bs=>∃b sv vs fs,v= nF 71 (nP (nM ⟨b,0,nN⟩))/\Ac w b [sv] 74/\AK w sv 66 vs/\PsAt w l vs fs/\bs=b::(sv.ownBlock.toList++fs)
 | .obj ks l,v,bs=>∃b sv sk vs fs,v= nF 123 (nP (nM ⟨b,0,nN⟩))/\Ac w b [sv,sk] 125/\AK w sv 66 vs/\AK w sk 9 (Ad ks)/\ks.length=l.length/\PsAt w l vs fs/\
  bs=b::(sv.ownBlock.toList++(sk.ownBlock.toList++fs))
 | .null,v,bs=>v= nF 131 (nA #[AG .null])/\bs=[]
 | .flag b,v,bs=>v= nF 131 (nA #[AG (.flag b)])/\bs=[]
 | .num n,v,bs=>v= nF 131 (nA #[AG (.num n)])/\bs=[]
 | .text s,v,bs=>v= nF 131 (nA #[AG (.text s)])/\bs=[]
def PsAt (w:Wl):List Tr->List Vl->List Nat->Prop
 |[],vs,bs=>vs=[]/\bs=[]
 |t::l,vs,bs=>∃v r b1 b2,vs=v::r/\AP w t v b1/\PsAt w l r b2/\bs=b1++b2
end
variable{bs cs:List Nat}{xs:List Vl}{e:Ti}{sv:Vl}{w w':Wl}
def Ca(bs:List Nat)(w w':Wl):Prop:=∀b,b∈bs->w'.heap[b]? =w.heap[b]?
theorem Ca.mono(h:Ca bs w w')(c:∀b,b∈cs->b∈bs):Ca cs w w':=fun b a=>h b (c b a)
theorem Ca.left(h:Ca (cs++bs) w w'):Ca cs w w':=h.mono fun b a=>Qe _ a
theorem Ca.right(h:Ca (cs++bs) w w'):Ca bs w w':=h.mono fun b a=>Qd _ a
theorem Ca.perm(h:Ca bs w w')(c:cs.Perm bs):Ca cs w w':=h.mono fun b a=>c.mem_iff.1 a
theorem Ac.same{b:Nat}{cs:List Vl}{T:Ti}(h:Ac w b cs T)(e:w'.heap[b]? =w.heap[b]?):Ac w' b cs T:=e.trans h
theorem AK.same(h:AK w sv e xs)(f:Ca sv.ownBlock.toList w w'):AK w' sv e xs:=by
 obtain⟨d,a⟩:=h;refine⟨d, ?_⟩;rcases a with a|⟨g,cap,c,b,i,j,r⟩
 .exact .inl a
 .refine .inr ⟨g,cap,c,b,i, ?_,r⟩;rw[f g (by subst b;simp[Vl.ownBlock])];exact j
theorem AK.ltB(h:AK w sv e xs):∀b,b∈sv.ownBlock.toList->b<w.heap.size:=fun b a=>h.lt yu
mutual
theorem yx{p:Prop}(h:p:=by simp only[AP]at h|-;exact h):p:=h
theorem AP.same {w w':Wl}:∀(t:Tr) (v:Vl) (bs:List Nat),Ca bs w w'->AP w t v bs->AP w' t v bs
 | .list l,v,bs,hs,h=>by
  simp only[AP]at h|-;obtain⟨b,sv,vs,fs,h1,h2,h3,h4,rfl⟩:=h;exact⟨b,sv,vs,fs,h1,h2.same (hs b Zh),h3.same (hs.mono fun c hc=>by simp at hc|-;exact .inr (.inl hc)),PsAt.same l vs fs (hs.mono fun c hc=>by simp;exact .inr (.inr hc)) h4,rfl⟩
 | .obj ks l,v,bs,hs,h=>by
  simp only[AP]at h|-;obtain⟨b,sv,sk,vs,fs,h1,h2,h3,h5,h6,h4,rfl⟩:=h
  exact⟨b,sv,sk,vs,fs,h1,h2.same (hs b Zh),h3.same (hs.mono fun c hc=>by simp at hc|-;exact .inr (.inl hc)),h5.same (hs.mono fun c hc=>by simp at hc|-;exact .inr (.inr (.inl hc))),h6,
   PsAt.same l vs fs (hs.mono fun c hc=>by simp;exact .inr (.inr (.inr hc))) h4,rfl⟩
 | .null,v,bs,_,h=>yx
 | .flag _,v,bs,_,h=>yx
 | .num _,v,bs,_,h=>yx
 | .text _,v,bs,_,h=>yx
theorem PsAt.same {w w':Wl}:∀(l:List Tr) (vs:List Vl) (bs:List Nat),Ca bs w w'->PsAt w l vs bs->PsAt w' l vs bs
 |[],vs,bs,_,h=>by simp only[PsAt]at h|-;exact h
 |t::l,vs,bs,hs,h=>by
  simp only[PsAt]at h|-;obtain⟨v,r,b1,b2,h1,h2,h3,rfl⟩:=h;exact⟨v,r,b1,b2,h1,AP.same t v b1 hs.left h2,PsAt.same l r b2 hs.right h3,rfl⟩
end
mutual
theorem yt{p:Prop}(h:p:=by simp only[AP]at h;obtain⟨_,rfl⟩:=h;intro c hc;cases hc):p:=h
theorem AP.lt {w:Wl}:∀(t:Tr) (v:Vl) (bs:List Nat),AP w t v bs->∀b,b∈bs->b<w.heap.size
 | .list l,v,bs,h=>by
  simp only[AP]at h;obtain⟨b,sv,vs,fs,h1,h2,h3,h4,rfl⟩:=h;intro c hc;rcases Qh.1 hc with rfl|hc
  .exact h2.lt
  .rcases Qf.1 hc with hc|hc
   .exact h3.ltB c hc
   .exact PsAt.lt l vs fs h4 c hc
 | .obj ks l,v,bs,h=>by
  simp only[AP]at h;obtain⟨b,sv,sk,vs,fs,h1,h2,h3,h5,h6,h4,rfl⟩:=h;intro c hc;rcases Qh.1 hc with rfl|hc
  .exact h2.lt
  .rcases Qf.1 hc with hc|hc
   .exact h3.ltB c hc
   .rcases Qf.1 hc with hc|hc
    .exact h5.ltB c hc
    .exact PsAt.lt l vs fs h4 c hc
 | .null,v,bs,h=>yt
 | .flag _,v,bs,h=>yt
 | .num _,v,bs,h=>yt
 | .text _,v,bs,h=>yt
theorem PsAt.lt {w:Wl}:∀(l:List Tr) (vs:List Vl) (bs:List Nat),PsAt w l vs bs->∀b,b∈bs->b<w.heap.size
 |[],vs,bs,h=>by simp only[PsAt]at h;obtain⟨_,rfl⟩:=h;intro c hc;cases hc
 |t::l,vs,bs,h=>by
  simp only[PsAt]at h;obtain⟨v,r,b1,b2,h1,h2,h3,rfl⟩:=h;intro c hc;rcases Qf.1 hc with hc|hc
  .exact AP.lt t v b1 h2 c hc
  .exact PsAt.lt l r b2 h3 c hc
end
variable{s:BY}{bs cs d:List Nat}{l:List Tr}{vs:List Vl}{i:Nat}{t u x:Tr}{j v:Vl}{w w':Wl}
theorem AP.chg(h:AP w t v bs)(c:Chg w w' cs)(d:∀b,b∈cs->b∉bs):AP w' t v bs:=
 AP.same t v bs (fun b a=>c.block b (AP.lt t v bs h b a) fun e=>d b e a) h
theorem PsAt.chg(h:PsAt w l vs bs)(c:Chg w w' cs)(d:∀b,b∈cs->b∉bs):PsAt w' l vs bs:=
 PsAt.same l vs bs (fun b a=>c.block b (PsAt.lt l vs bs h b a) fun e=>d b e a) h
theorem PsAt.length:∀{l:List Tr} {vs:List Vl} {bs:List Nat},PsAt w l vs bs->vs.length=l.length
 |[],_,_,h=>by simp only[PsAt]at h;obtain⟨rfl,_⟩:=h;rfl
 |t::l,_,_,h=>by
  simp only[PsAt]at h;obtain⟨v,r,b,c,rfl,_,a,_⟩:=h;have:=a.length;simp[this]
theorem AP.iface(h:AP w t v bs):∃a x,v= nF a x:=by
 cases t<;>simp only[AP]at h
 case list=>obtain⟨_,_,_,_,rfl,_⟩:=h;exact⟨_,_,rfl⟩
 case obj=>obtain⟨_,_,_,_,_,rfl,_⟩:=h;exact⟨_,_,rfl⟩
 all_goals(obtain⟨rfl,_⟩:=h;exact⟨_,_,rfl⟩)
theorem PsAt.one:∀{l:List Tr} {vs:List Vl} {bs:List Nat},PsAt w l vs bs->∀u∈vs,u.oneCell'=true
 |[],_,_,h,u,a=>by simp only[PsAt]at h;obtain⟨rfl,_⟩:=h;cases a
 |t::l,_,_,h,u,a=>by
  simp only[PsAt]at h;obtain⟨v,r,d,e,rfl,b,c,_⟩:=h;rcases Qh.1 a with rfl|a
  .obtain⟨f,x,rfl⟩:=b.iface;rfl
  .exact c.one u a
theorem PsAt.append:∀{l m:List Tr} {vs us:List Vl} {bs cs:List Nat},PsAt w l vs bs->PsAt w m us cs->PsAt w (l++m) (vs++us) (bs++cs)
 |[],_,_,_,_,_,h,k=>by simp only[PsAt]at h;obtain⟨rfl,rfl⟩:=h;exact k
 |t::l,_,_,_,_,_,h,k=>by
  simp only[PsAt,Qo]at h|-;obtain⟨v,r,a,b,rfl,c,d,rfl⟩:=h;exact⟨v,r++_,a,b++_,rfl,c,d.append k,by rw[List.append_assoc]⟩
theorem PsAt.cons(h:AP w t v bs)(k:PsAt w l vs cs):PsAt w (t::l) (v::vs) (bs++cs):=by
 simp only[PsAt];exact⟨v,vs,bs,cs,rfl,h,k,rfl⟩
theorem PsAt.split:∀{l m:List Tr} {vs:List Vl} {bs:List Nat},PsAt w (l++m) vs bs->∃a b,PsAt w l (vs.take l.length) a/\PsAt w m (vs.drop l.length) b/\bs=a++b
 |[],m,vs,bs,h=>⟨[],bs,by simp[PsAt],by simpa using h,rfl⟩
 |t::l,m,vs,bs,h=>by
  simp only[PsAt,Qo]at h;obtain⟨v,r,c,j,rfl,e,f,rfl⟩:=h;obtain⟨c1,d,g,i,rfl⟩:=f.split;exact⟨c++c1,d,by simpa using PsAt.cons e g,by simpa using i,by rw[List.append_assoc]⟩
theorem PsAt.mid(h:PsAt w l vs bs)(g:l[i]? =nM u):
  ∃v a b c,vs[i]? =nM v/\AP w u v b/\PsAt w (l.take i) (vs.take i) a/\PsAt w (l.drop (i+1)) (vs.drop (i+1)) c/\bs=a++(b++c):=by
 obtain⟨hi,_⟩:=Qc.1 g;obtain⟨e,_⟩:=CZ g u;have q:=h.length;rw[e]at h;obtain⟨a,c,f,d,rfl⟩:=h.split;have n:(l.take i).length=i:=by rw[Ql];omega
 rw[n]at f d;simp only[PsAt]at d;obtain⟨v,r,b,k,j,o,p,rfl⟩:=d;have m:vs.drop (i+1)=r:=by rw[<-List.drop_drop,j];rfl
 refine⟨v,a,b,k, ?_,o,f,m▸p,rfl⟩;rw[<-List.head?_drop,j];rfl
def Dv(w:Wl):Tr->Vl->List BY->Vl->Prop
 |_,v,[],a=>a=v
 |t,v,s::r,a=>∃i u b g n c d e,D6 t s=nM i/\(Ab t)[i]? =nM u/\v= nF e (nP (nM ⟨b,0,nN⟩))/\w.cell? ⟨b,0,nN⟩=nM (nS (nM ⟨g,0,nN⟩) n c)/\w.cell? ⟨g,i,nN⟩=nM d/\Dv w u d r a
theorem Dv.inj:∀{ts:List BY} {t:Tr} {v a b:Vl},Dv w t v ts a->Dv w t v ts b->a=b
 |[],_,_,_,_,h,k=>by simp only[Dv]at h k;rw[h,k]
 |s::r,_,_,_,_,h,k=>by
  simp only[Dv]at h k;obtain⟨i,u,b,g,n,c,J,G,m,o,p,q,x,y⟩:=h;obtain⟨D,I,A,C,F,B,K,H,f,j,d,e,l,z⟩:=k;rw[m]at f;injection f with f;subst f
  rw[o]at j;injection j with j;subst j
  rw[p]at d;injection d with E d;injection d with d;injection d with d;injection d with d;subst d
  rw[q]at e;injection e with e;injection e with e;injection e with e;injection e with e;subst e
  rw[x]at l;injection l with l;subst l
  exact y.inj z
theorem Dv.snoc:∀{ts:List BY} {t u:Tr} {v e x:Vl} {s:BY},Ah t ts=nM u->Dv w t v ts e->Dv w u e [s] x->Dv w t v (ts++[s]) x
 |[],t,u,v,e,x,s,d,h,k=>by
  simp only[Ah]at d;injection d with d;subst d
  have h:e=v:=by simpa only[Dv]using h
  subst h;exact k
 |a::r,t,u,v,e,x,s,d,h,k=>by
  obtain⟨E,z,f,j,A⟩:=CC d;simp only[Dv,Qo]at h|-;obtain⟨i,C,b,g,n,c,D,B,l,m,o,p,q,y⟩:=h;rw[l]at f;injection f with f;subst f
  rw[m]at j;injection j with j;subst j
  exact⟨i,C,b,g,n,c,D,B,l,m,o,p,q,y.snoc A k⟩
structure Ir(w:Wl)(t:Tr)(v:Vl)(bs:List Nat)(ts:List BY)(u:Tr)(vu:Vl)(bu rest:List Nat):Prop where
 lead:Ah t ts=nM u
 reach:Dv w t v ts vu
 at_:AP w u vu bu
 perm:bs.Perm (bu++rest)
 back:∀(f:Tr->Tr) (w':Wl) (bu':List Nat),AP w' (f u) vu bu'->Ca rest w w'->∃bs',AP w' (Bz f t ts) v bs'/\bs'.Perm (bu'++rest)
theorem Ir.here(h:AP w t v bs):Ir w t v bs [] t v bs []:=
 ⟨rfl,rfl,h,Zh,fun f w' a b _=>⟨a,by simpa[Bz]using b,Zh⟩⟩
theorem Ir.snoc{l:Vl}{c b i:List Nat}{ts:List BY}(h:Ir w t v bs ts u j c b)(k:Ir w u j c [s] x l d i):
  Ir w t v bs (ts++[s]) x l d (i++b):=by
 refine⟨?_,h.reach.snoc h.lead k.reach,k.at_, ?_, ?_⟩
 .have a:=k.lead;simp only[Ah]at a;rw[BW,h.lead];simp only[Option.bind_some];cases e:Dy u s with
  |none=>rw[e]at a;cases a
  |some y=>rw[e]at a;simpa using a
 .rw[<-List.append_assoc];exact h.perm.trans (k.perm.append_right b)
 .intro f w' o A g;obtain⟨m,p,q⟩:=k.back f w' o A g.left;obtain⟨n,r,z⟩:=h.back (fun u=>Bz f u [s]) w' m p g.right;refine⟨n,by rw[Gh];exact r,z.trans ?_⟩;rw[<-List.append_assoc];exact q.append_right b
theorem Fx(h:AP w t v bs)(C:D6 t s=nM i)(p:(Ab t)[i]? =nM u):
  ∃b g n c m o rest R,v= nF R (nP (nM ⟨b,0,nN⟩))/\w.cell? ⟨b,0,nN⟩=nM (nS (nM ⟨g,0,nN⟩) n c)/\w.cell? ⟨g,i,nN⟩=nM m/\Ir w t v bs [s] u m o rest:=by
 have M:Ah t [s]=nM u:=by simp[Ah,Dy,C,p]
 have N:∀f,Bz f t [s]=AW t ((Ab t).set i (f u)):=fun f=>by rw[BF C p];rfl
 cases t with
 |list l=>
  simp only[AP]at h;simp only[Ab]at p;obtain⟨b,sv,vs,O,rfl,z,y,D,rfl⟩:=h;obtain⟨m,d,o,j,x,H,I,J,rfl⟩:=D.mid p;obtain⟨a,c,rfl,F⟩:=y.form;obtain⟨g,rfl⟩:=F (by intro e;subst e;simp at x);have A:w.cell? ⟨b,0,nN⟩=nM (nS (nM ⟨g,0,nN⟩) vs.length c):=z.cell 0;have B:=y.cell rfl i m x;refine⟨b,g,_,c,m,o,b::g::(d++j),_,rfl,A,B,M,⟨i,u,b,g,_,c,m,_,C,p,rfl,A,B,rfl⟩,H, ?_, ?_⟩
  .have:(b::((Vl.slice (nM ⟨g,0,nN⟩) vs.length c).ownBlock.toList++(d++(o++j)))).Perm (o++(b::g::(d++j))):=by
    simp only[Vl.ownBlock,Option.toList_some,Qo,List.nil_append];refine List.Perm.trans ?_ (List.perm_append_comm (l₁:=b::g::(d++j)) (l₂:=o));simp only[Qo,List.append_assoc];exact((List.perm_append_comm (l₁:=o) (l₂:=j)).append_left d).cons g|>.cons b
   exact this
  .intro f w' r E q;rw[N f];have hi:=(Qc.1 p).1;have S:=(Qc.1 x).1;refine⟨b::g::(d++(r++j)), ?_, ?_⟩
   .simp only[AW,Ab,AP];refine⟨b,_,vs,d++(r++j),rfl,z.same (q b Zh),y.same (q.mono fun c k=>by simp[Vl.ownBlock]at k;subst k;simp), ?_,rfl⟩;rw[(CZ p (f u)).2];have G:vs=vs.take i++m::vs.drop (i+1):=(CZ x m).1;rw[G];have K:=PsAt.same _ _ _ (q.mono fun c k=>by simp;exact .inr (.inr (.inl k))) I;have L:=PsAt.same _ _ _ (q.mono fun c k=>by simp;exact .inr (.inr (.inr k))) J;exact K.append (PsAt.cons E L)
   .refine List.Perm.trans ?_ (List.perm_append_comm (l₁:=b::g::(d++j)) (l₂:=r));simp only[Qo,List.append_assoc];exact((List.perm_append_comm (l₁:=r) (l₂:=j)).append_left d).cons g|>.cons b
 |obj ks l=>
  simp only[AP]at h;simp only[Ab]at p;obtain⟨b,sv,sk,vs,O,rfl,z,y,P,Q,D,rfl⟩:=h;obtain⟨m,d,o,j,x,H,I,J,rfl⟩:=D.mid p;obtain⟨a,c,rfl,F⟩:=y.form;obtain⟨g,rfl⟩:=F (by intro e;subst e;simp at x);have A:w.cell? ⟨b,0,nN⟩=nM (nS (nM ⟨g,0,nN⟩) vs.length c):=z.cell 0;have B:=y.cell rfl i m x;refine⟨b,g,_,c,m,o,b::g::(sk.ownBlock.toList++(d++j)),_,rfl,A,B,M,⟨i,u,b,g,_,c,m,_,C,p,rfl,A,B,rfl⟩,H, ?_, ?_⟩
  .have:(b::((Vl.slice (nM ⟨g,0,nN⟩) vs.length c).ownBlock.toList++(sk.ownBlock.toList++(d++(o++j))))).Perm (o++(b::g::(sk.ownBlock.toList++(d++j)))):=by
    simp only[Vl.ownBlock,Option.toList_some,Qo,List.nil_append];refine List.Perm.trans ?_ (List.perm_append_comm (l₁:=b::g::(sk.ownBlock.toList++(d++j))) (l₂:=o));simp only[Qo,List.append_assoc];exact(((List.perm_append_comm (l₁:=o) (l₂:=j)).append_left d).append_left _).cons g|>.cons b
   exact this
  .intro f w' r E q;rw[N f];refine⟨b::g::(sk.ownBlock.toList++(d++(r++j))), ?_, ?_⟩
   .simp only[AW,Ab,AP]
    refine⟨b,_,sk,vs,d++(r++j),rfl,z.same (q b Zh),y.same (q.mono fun c k=>by simp[Vl.ownBlock]at k;subst k;simp),
     P.same (q.mono fun c k=>by simp only[Qh,Qf];exact .inr (.inr (.inl k))),by rw[List.length_set];exact Q, ?_,rfl⟩
    rw[(CZ p (f u)).2];have G:vs=vs.take i++m::vs.drop (i+1):=(CZ x m).1;rw[G];have K:=PsAt.same _ _ _ (q.mono fun c k=>by simp only[Qh,Qf];exact .inr (.inr (.inr (.inl k)))) I;have L:=PsAt.same _ _ _ (q.mono fun c k=>by simp only[Qh,Qf];exact .inr (.inr (.inr (.inr k)))) J;exact K.append (PsAt.cons E L)
   .refine List.Perm.trans ?_ (List.perm_append_comm (l₁:=b::g::(sk.ownBlock.toList++(d++j))) (l₂:=r));simp only[Qo,List.append_assoc];exact(((List.perm_append_comm (l₁:=r) (l₂:=j)).append_left d).append_left _).cons g|>.cons b
 |_=>simp[D6]at C
theorem Ew{d:Type}(a b c:List d):(a++(b++c)).Perm (b++(a++c)):=by
 rw[<-List.append_assoc,<-List.append_assoc];exact List.perm_append_comm.append_right c
theorem PsAt.erase(h:PsAt w l vs bs)(j:l[i]? =nM u):
  ∃v a rest,vs[i]? =nM v/\AP w u v a/\PsAt w (l.eraseIdx i) (vs.eraseIdx i) rest/\bs.Perm (a++rest):=by
 obtain⟨v,b,a,c,d,e,f,g,rfl⟩:=h.mid j;refine⟨v,a,b++c,d,e, ?_,Ew b a c⟩;rw[C6,C6];exact f.append g
theorem PsAt.set{e:Vl}(h:PsAt w l vs bs)(j:l[i]? =nM u)(o:AP w x e d):
  ∃v a rest f,vs[i]? =nM v/\AP w u v a/\bs.Perm (a++rest)/\PsAt w (l.set i x) (vs.set i e) f/\f.Perm (d++rest):=by
 obtain⟨v,b,a,c,g,k,m,n,rfl⟩:=h.mid j;refine⟨v,a,b++c,b++(d++c),g,k,Ew b a c, ?_,Ew b d c⟩;rw[(CZ j x).2,(CZ g e).2];exact m.append (PsAt.cons o n)
theorem PsAt.insert{a:List Nat}(h:PsAt w l vs bs)(hi:i<=l.length)(m:AP w x j a):
  ∃d,PsAt w (l.insertIdx i x) (vs.insertIdx i j) d/\d.Perm (a++bs):=by
 have n:=h.length;have e:=List.take_append_drop i l;rw[<-e]at h;obtain⟨b,c,f,g,rfl⟩:=h.split;have k:(l.take i).length=i:=by rw[Ql];omega
 rw[k]at f g;refine⟨b++(a++c), ?_,Ew b a c⟩;rw[AQ l i hi,AQ vs i Zj];exact f.append (PsAt.cons m g)
def Kp:List BY->List Vl->List Vl
 |k::ks,v::vs=> nG k::v::Kp ks vs
 |_,_=>[]
theorem K0:∀{ks:List BY} {vs:List Vl},ks.length=vs.length->(Kp ks vs).length=2*ks.length
 |[],[],_=>rfl
 |k::ks,v::vs,h=>by simp[Kp,K0 (ks:=ks) (vs:=vs) (by simpa using h)];omega
 |[],_::_,h=>by simp at h
 |_::_,[],h=>by simp at h
theorem Mi:∀{ks:List BY} {vs:List Vl} {i:Nat} {k:BY} {v:Vl},ks[i]? =nM k->vs[i]? =nM v->(Kp ks vs)[2*i]? =nM (nG k)/\(Kp ks vs)[2*i+1]? =nM v
 |a::ks,b::vs,0,k,v,c,d=>by simp at c d;subst c;subst d;exact⟨rfl,rfl⟩
 |a::ks,b::vs,i+1,k,v,c,d=>by
  have:=Mi (ks:=ks) (vs:=vs) (i:=i) (by simpa using c) (by simpa using d);rw[show 2*(i+1)=2*i+1+1 from by omega];exact this
 |[],_,i,k,v,c,_=>by simp at c
 |_::_,[],i,k,v,_,d=>by simp at d
theorem Oj:∀{ks:List BY} {vs:List Vl} {k:BY} {v:Vl},ks.length=vs.length->Kp (ks++[k]) (vs++[v])=Kp ks vs++[nG k,v]
 |[],[],_,_,_=>rfl
 |a::ks,b::vs,k,v,h=>by simp[Kp,Oj (ks:=ks) (vs:=vs) (k:=k) (v:=v) (by simpa using h)]
 |[],_::_,_,_,h=>by simp at h
 |_::_,[],_,_,h=>by simp at h
mutual
def Hm (w:Wl) (F:Nat->Prop):Tr->Vl->Prop
 | .list l,v=>∃sl vs,v= nF 92 sl/\Ax w F sl vs/\Dc w F l vs
 | .obj ks l,v=>∃la c vs,v= nF 100 (nS la l.length c)/\ks.length=l.length/\LP w F la (Kp ks vs)/\Dc w F l vs
 | .null,v=>v=AG .null
 | .flag b,v=>v=AG (.flag b)
 | .num n,v=>v=AG (.num n)
 | .text s,v=>v=AG (.text s)
def Dc (w:Wl) (F:Nat->Prop):List Tr->List Vl->Prop
 |[],vs=>vs=[]
 |t::l,vs=>∃v r,vs=v::r/\Hm w F t v/\Dc w F l r
end
mutual
theorem yy{p:Prop}(h:p:=by simp only[Hm]at h|-;exact h):p:=h
theorem Hm.kept {w w':Wl} {F G:Nat->Prop} (hk:BZ F w w') (hF:∀b,F b->G b):∀(t:Tr) (v:Vl),Hm w F t v->Hm w' G t v
 | .list l,v,h=>by
  simp only[Hm]at h|-;obtain⟨sl,vs,h1,h2,h3⟩:=h;exact⟨sl,vs,h1,h2.kept hk hF,Dc.kept hk hF l vs h3⟩
 | .obj ks l,v,h=>by
  simp only[Hm]at h|-;obtain⟨la,c,vs,h1,h0,h2,h3⟩:=h;exact⟨la,c,vs,h1,h0,h2.kept hk hF,Dc.kept hk hF l vs h3⟩
 | .null,_,h=>yy
 | .flag _,_,h=>yy
 | .num _,_,h=>yy
 | .text _,_,h=>yy
theorem Dc.kept {w w':Wl} {F G:Nat->Prop} (hk:BZ F w w') (hF:∀b,F b->G b):∀(l:List Tr) (vs:List Vl),Dc w F l vs->Dc w' G l vs
 |[],_,h=>by simp only[Dc]at h|-;exact h
 |t::l,vs,h=>by
  simp only[Dc]at h|-;obtain⟨v,r,h1,h2,h3⟩:=h;exact⟨v,r,h1,Hm.kept hk hF t v h2,Dc.kept hk hF l r h3⟩
end
variable{a bs cs f:List Nat}{l:List Tr}{vs xs:List Vl}{cap g k n:Nat}{F G:Nat->Prop}{t u:Tr}{sv v:Vl}{d w w' w0 wr:Wl}
theorem Dc.length:∀{l:List Tr} {vs:List Vl},Dc w F l vs->vs.length=l.length
 |[],_,h=>by simp only[Dc]at h;subst h;rfl
 |t::l,_,h=>by
  simp only[Dc]at h;obtain⟨v,r,rfl,_,a⟩:=h;simp[a.length]
theorem Dc.get:∀{l:List Tr} {vs:List Vl},Dc w F l vs->∀(i:Nat) (t:Tr),l[i]? =nM t->∃v,vs[i]? =nM v/\Hm w F t v
 |[],_,_,i,t,hi=>by simp at hi
 |u::l,vs,h,i,t,hi=>by
  simp only[Dc]at h;obtain⟨v,r,rfl,c,d⟩:=h;cases i with
  |zero=>simp at hi;subst hi;exact⟨v,rfl,c⟩
  |succ i=>simp at hi;obtain⟨v',a,b⟩:=d.get i t hi;exact⟨v',by simpa using a,b⟩
theorem Dc.snoc:∀{l:List Tr} {vs:List Vl} {t:Tr} {v:Vl},Dc w F l vs->Hm w F t v->Dc w F (l++[t]) (vs++[v])
 |[],_,t,v,h,k=>by simp only[Dc]at h;subst h;exact⟨v,[],rfl,k,rfl⟩
 |u::l,_,t,v,h,k=>by
  simp only[Dc]at h;obtain⟨a,r,rfl,b,c⟩:=h;exact⟨a,r++[v],rfl,b,c.snoc k⟩
theorem PsAt.snoc(h:PsAt w l vs bs)(k:AP w t v a):PsAt w (l++[t]) (vs++[v]) (bs++a):=by
 have:PsAt w [t] [v] a:=⟨v,[],a,[],rfl,k,⟨rfl,rfl⟩,Zh⟩;exact h.append this
theorem PsAt.get(h:PsAt w l vs bs){i:Nat}(f:l[i]? =nM u):∃v a,vs[i]? =nM v/\AP w u v a/\∀b,b∈a->b∈bs:=by
 obtain⟨v,g,a,j,c,d,_,_,rfl⟩:=h.mid f;exact⟨v,a,c,d,fun b e=>by simp[e]⟩
theorem Hm.iface(h:Hm w F t v):∃a x,v= nF a x:=by
 cases t<;>simp only[Hm]at h
 case list=>obtain⟨_,_,rfl,_⟩:=h;exact⟨_,_,rfl⟩
 case obj=>obtain⟨_,_,_,rfl,_⟩:=h;exact⟨_,_,rfl⟩
 all_goals(subst h;exact⟨_,_,rfl⟩)
def Ht(t:Tr)(w:Wl)(e:Ending)(w':Wl):Prop:=
 ∃v G,e= nR v/\Hm w' G t v/\Chg w w' []/\∀b,G b->w.heap.size<=b/\b<w'.heap.size
def T8(w0:Wl)(l:List Tr)(k:Nat)(a:Vl)(wr:Wl):Prop:=
 ∃xs G,AK wr a 95 xs/\Dc wr G (l.take k) xs/\(∀b,G b->w0.heap.size<=b/\b<wr.heap.size)/\(∀g,a.ownBlock=nM g->w0.heap.size<=g/\¬G g)/\Chg w0 wr []
def cz(w0:Wl)(ks:List BY)(l:List Tr)(k:Nat)(a:Vl)(wr:Wl):Prop:=
 ∃xs G,Ba wr a 151 2 k (Kp (ks.take k) xs)/\Dc wr G (l.take k) xs/\(∀b,G b->w0.heap.size<=b/\b<wr.heap.size)/\(∀g,a.ownBlock=nM g->w0.heap.size<=g/\¬G g)/\Chg w0 wr []
theorem Cb{a:Type}{l:List a}{u:a}(h:l[k]? =nM u):l.take (k+1)=l.take k++[u]:=by rw[List.take_add_one,h];rfl
theorem Dc.keptC{H:Nat->Prop}(h:Dc w G l vs)(c:Chg w w' bs)(d:∀b,G b->b<w.heap.size)(e:∀b,b∈bs->¬G b)(a:∀b,G b->H b):Dc w' H l vs:=
 Dc.kept (c.keepsF d e) a l vs h
theorem T8.next{q:Wl}{f z:Vl}{r:Nat->Prop}{o:Obj}(x:l[k]? =nM u)(A:Dc wr G (l.take k) xs)(i:∀b,G b->w0.heap.size<=b/\b<wr.heap.size)(m:∀g,f.ownBlock=nM g->w0.heap.size<=g/\¬G g)(v:Chg w0 wr [])(y:∀g,f.ownBlock=nM g->g<wr.heap.size)(C:Hm d r u z)(t:Chg wr d [])(e:∀b,r b->wr.heap.size<=b/\b<d.heap.size)(D:AK q (nS (nM ⟨g,0,nN⟩) n cap) 95 (xs++[z]))(E:Chg (d.alloc o) q f.ownBlock.toList)(F:f.ownBlock=nM g\/g=(d.alloc o).heap.size):
  T8 w0 l (k+1) (nS (nM ⟨g,0,nN⟩) n cap) q:=by
 have p:Chg d q f.ownBlock.toList:=((Chg.refl d []).alloc o|>.none _).trans E;have I:=v.size;have J:=t.size;have K:=p.size;refine⟨_,fun b=>G b\/r b,D, ?_, ?_, ?_, ?_⟩
 .rw[Cb x];refine Dc.snoc ?_ ?_
  .refine(A.keptC t (fun b a=>(i b a).2) Zh (fun _ h=>h)).keptC p (fun b a=>by have:=(i b a).2;omega) (fun b a s=>(m b yu).2 s) (fun _ h=> .inl h)
  .exact Hm.kept (p.keepsF (fun b a=>(e b a).2) (fun b a s=>by have:=y b yu;have:=(e b s).1;omega)) (fun _ h=> .inr h) _ _ C
 .intro b a;rcases a with a|a
  .have:=i b a;omega
  .have:=e b a;omega
 .intro H w;simp[Vl.ownBlock]at w;subst w;rcases F with h|h
  .refine⟨(m _ h).1,fun c=> ?_⟩;rcases c with c|c
   .exact(m _ h).2 c
   .have:=y _ h;have:=(e _ c).1;omega
  .rw[World.size_alloc]at h;refine⟨Zj,fun c=> ?_⟩;rcases c with c|c
   .have:=(i _ c).2;omega
   .have:=(e _ c).2;omega
 .exact(v.trans t).step p fun j B x=>by have:=(m j (by simpa using B)).1;omega
theorem cz.next{e v:Wl}{ks:List BY}{n t:Vl}{s:BY}{o:Nat->Prop}(q:l[k]? =nM u)(A:ks[k]? =nM s)(w:Dc wr G (l.take k) xs)(f:∀b,G b->w0.heap.size<=b/\b<wr.heap.size)(i:∀g,n.ownBlock=nM g->w0.heap.size<=g/\¬G g)(x:Chg w0 wr [])(z:∀g,n.ownBlock=nM g->g<wr.heap.size)(E:Hm e o u t)(r:Chg wr e [])(d:∀b,o b->wr.heap.size<=b/\b<e.heap.size)(F:Ba v (nS (nM ⟨g,0,nN⟩) (k+1) cap) 151 2 (k+1) (Kp (ks.take k) xs++[nG s,t]))(m:Chg e v n.ownBlock.toList)(H:n.ownBlock=nM g\/e.heap.size<=g):
  cz w0 ks l (k+1) (nS (nM ⟨g,0,nN⟩) (k+1) cap) v:=by
 have L:=x.size;have M:=r.size;have N:=m.size
 have D:(ks.take k).length=xs.length:=by
  have B:=w.length;have I:=(Qc.1 q).1;have J:=(Qc.1 A).1;rw[B,Ql,Ql];omega
 refine⟨xs++[t],fun b=>G b\/o b, ?_, ?_, ?_, ?_, ?_⟩
 .rw[Cb A,Oj D];exact F
 .rw[Cb q];refine Dc.snoc ?_ ?_
  .refine(w.keptC r (fun b a=>(f b a).2) Zh (fun _ h=>h)).keptC m (fun b a=>by have:=(f b a).2;omega) (fun b a p=>(i b yu).2 p) (fun _ h=> .inl h)
  .exact Hm.kept (m.keepsF (fun b a=>(d b a).2) (fun b a p=>by have:=z b yu;have:=(d b p).1;omega)) (fun _ h=> .inr h) _ _ E
 .intro b a;rcases a with a|a
  .have:=f b a;omega
  .have:=d b a;omega
 .intro K y;simp[Vl.ownBlock]at y;subst y;rcases H with h|h
  .refine⟨(i _ h).1,fun c=> ?_⟩;rcases c with c|c
   .exact(i _ h).2 c
   .have:=z _ h;have:=(d _ c).1;omega
  .refine⟨Zj,fun c=> ?_⟩;rcases c with c|c
   .have:=(f _ c).2;omega
   .have:=(d _ c).2;omega
 .exact(x.trans r).step m fun j C q=>by have:=(i j (by simpa using C)).1;omega
theorem KM{P:Program}{h:Array Oper}{rest:List Oper}{o:Oper}{a:Act}{Q:Exit->Act->Wl->Prop}(y:o.guard=nN)(l c:Operand)(t:Ti)(F:o.op=Op.makeSlice t l c)(e:Ti)(z:Vl)(sz d:Nat)(I:P.underlying t=nM (.slice e))(A:(P.info? e).map (fun i=>(i.zero,i.size,i.bytes))=nM (nM z,sz,d))(g f:IntKind)(C:Int)(n:Nat)(E:a.eval l= nI g 0)(x:a.eval c= nI f C)(r:C=(n:Int))(j:d*n<=281474976710656)(m:n<=maxLen)(B:Nat)(q:w.heap.size=B)(s:∀w',Ba w' (nS (nM ⟨B,0,nN⟩) 0 n) e sz 0 []->Chg w w' []->wpList P h Q rest (a.put o.dst (nS (nM ⟨B,0,nN⟩) 0 n)) w'):
  wpList P h Q (o::rest) a w:=by
 obtain⟨i,hi,J,H,v⟩:=info_parts A;subst r;subst v;subst q;obtain⟨w',G,p,b⟩:=run_make_own (P:=P) w 0 t e i z sz I hi J H g f n j m (Nat.zero_le _);refine wpList_plain y fun K u=> ?_;unfold Oper.wp;simp only[execOp,F,E,x,G,Sem.run_bind,Result.andThen_ok,Sem.run_pure];exact u _ _ (s w' p ⟨b.os,b.tape,b.output,b.size,fun k D _=>b.block k D Zh⟩)
structure BP(w0:Wl)(bs:List Nat):Prop where
 nodup:bs.Nodup
 ge:∀b,b∈bs->w0.heap.size<=b
def SF(t:Tr)(w:Wl)(e:Ending)(w':Wl):Prop:=
 ∃v bs,e= nR v/\AP w' t v bs/\BP w bs/\Chg w w' []
structure GD(w0 wr:Wl)(ex:List Nat)(l:List Tr)(sv:Vl)(vs:List Vl)(fs:List Nat):Prop where
 lst:AK wr sv 66 vs
 at_:PsAt wr l vs fs
 new:BP w0 (ex++(sv.ownBlock.toList++fs))
 lt:∀b,b∈ex->b<wr.heap.size
theorem BP.perm(h:BP w bs)(a:cs.Perm bs):BP w cs:=⟨a.nodup_iff.2 h.nodup,fun b c=>h.ge b (a.mem_iff.1 c)⟩
theorem BP.nil(w:Wl):BP w []:=⟨List.nodup_nil,fun _ h=>by cases h⟩
theorem BP.of_le(h:BP w' bs)(c:w.heap.size<=w'.heap.size):BP w bs:=⟨h.nodup,fun b a=>Q7 c (h.ge b a)⟩
theorem BP.append(h:BP w bs)(g:∀b,b∈bs->b<d.heap.size)(k:BP d cs)(i:w.heap.size<=d.heap.size):BP w (bs++cs):=
 ⟨List.nodup_append.2 ⟨h.nodup,k.nodup,fun a f b c e=>by have:=g a f;have:=k.ge b c;omega⟩,fun b c=>(Qf.1 c).elim (h.ge b) fun c=>Q7 i (k.ge b c)⟩
theorem BP.left(h:BP w (bs++cs)):BP w bs:=⟨(List.nodup_append.1 h.nodup).1,fun b a=>h.ge b (Qe _ a)⟩
theorem BP.right(h:BP w (bs++cs)):BP w cs:=⟨(List.nodup_append.1 h.nodup).2.1,fun b a=>h.ge b (Qd _ a)⟩
theorem BP.apart(h:BP w (bs++cs)):∀a,a∈bs->a∉cs:=fun a b c=>(List.nodup_append.1 h.nodup).2.2 a b a c rfl
theorem GD.kept{j:Wl}(h:GD w0 wr f l sv vs a)(d:Chg wr j cs)(i:∀b,b∈cs->b∉sv.ownBlock.toList++a:=by simp):GD w0 j f l sv vs a:=
 ⟨h.lst.kept d (fun g k e=>i g e (Qe _ (by simpa using k))),h.at_.chg d (fun b c e=>i b c (Qd _ e)),h.new,fun b c=>Q6 (h.lt b c) d.size⟩
theorem GD.ltAll{c:List Nat}{d:List Nat}(h:GD w0 wr c l sv vs d):∀b,b∈c++(sv.ownBlock.toList++d)->b<wr.heap.size:=fun b a=>by
 rcases Qf.1 a with a|a
 .exact h.lt b a
 .rcases Qf.1 a with a|a
  .exact h.lst.ltB b a
  .exact PsAt.lt _ _ _ h.at_ b a
theorem GD.nil(h:BP w0 a)(c:∀b,b∈a->b<w.heap.size):GD w0 w a [] (nS nN 0 0) [] []:=⟨AK.nil _ _,⟨rfl,rfl⟩,by simpa[Vl.ownBlock]using h,c⟩
theorem GD.push{k s:Wl}{r:Vl}{i d:List Nat}(h:GD w0 wr f l sv vs i)(v:AP k u r d)(w:BP wr d)(p:Chg wr k [])(C:AK s (nS (nM ⟨g,0,nN⟩) n cap) 66 (vs++[r]))(q:Chg k s sv.ownBlock.toList)(o:sv.ownBlock=nM g\/k.heap.size<=g)(B:w0.heap.size<=wr.heap.size):
  GD w0 s f (l++[u]) (nS (nM ⟨g,0,nN⟩) n cap) (vs++[r]) (i++d):=by
 have j:=h.ltAll;have x:=h.new.right.apart;have D:=p.size;refine⟨C, ?_, ?_,fun b c=>Q6 (h.lt b c) (Q7 p.size q.size)⟩
 .refine PsAt.snoc ((h.at_.chg p Zh).chg q x) (v.chg q fun b c z=> ?_);have:=j b (by simp only[Qf];exact .inr (.inl c));have:=w.ge b z;omega
 .have m:BP w0 (f++(sv.ownBlock.toList++i)++d):=h.new.append j w B;rcases o with o|o
  .rw[o]at m;simpa[Vl.ownBlock,List.append_assoc]using m
  .have y:∀b,b∈f++(i++d)->b<k.heap.size:=fun b c=>by
    rcases Qf.1 c with c|c
    .have:=h.lt b c;omega
    .rcases Qf.1 c with c|c
     .have:=j b (by simp only[Qf];exact .inr (.inr c));omega
     .exact AP.lt _ _ _ v b c
   have t:BP w0 (f++(i++d)):=by
    refine⟨m.nodup.sublist ?_,fun b c=>m.ge b (by simp only[Qf]at c|-;rcases c with h|h|h;exact .inl (.inl h);exact .inl (.inr (.inr h));exact .inr h)⟩;rw[List.append_assoc];refine List.Sublist.append_left ?_ f;rw[List.append_assoc];exact List.sublist_append_right _ _
   have A:BP w0 ([g]++(f++(i++d))):=by
    refine⟨List.nodup_append.2 ⟨Zh,t.nodup,fun a j b c e=> ?_⟩,fun b c=> ?_⟩
    .simp at j;subst j;subst e;have:=y a c;omega
    .rcases Qf.1 c with c|c
     .simp at c;subst c;omega
     .exact t.ge b c
   refine A.perm ?_;simp only[Vl.ownBlock,Option.toList_some];exact Ew _ _ _
def Aw.toI(s:Aw):Ap:=⟨s.sort,s.flag,s.bits,s.text,s.count,s.keys⟩
theorem Zy(h:u∈l):(Ag u).nodes<=(Bk l).nodes/\(Ag u).bytes<=(Bk l).bytes/\(Ag u).depth<=(Bk l).depth:=by
 obtain⟨i,hi⟩:=List.mem_iff_getElem?.1 h;have:=(Kc hi u).1;rw[this];simp only[Sz.add];omega
theorem C8(h:(Ag t).within=true)(a:u∈Ab t):(Ag u).within=true:=by
 have b:=Ar h;have c:=Zy a;unfold Sz.within;cases t with
 |list l=>simp only[Ab,Ag,Sz.over]at*;simp;omega
 |obj ks l=>simp only[Ab,Ag,Sz.over]at*;simp;omega
 |_=>simp[Ab]at a
theorem WY(t:Tr)(h:∀ks l,t= .obj ks l->ks.length=l.length):Hn (Aa t).toI=(Ab t).length:=by
 cases t<;>simp[Hn,Aa,Aw.toI,Ab]
 exact h _ _ rfl
theorem YC(h:Av t):Kw (Aa t).toI=true:=by
 rw[CU];cases t with
 |num b=>
  simp only[Av]at h;refine⟨?_,fun _=>h.2.1, ?_,rfl,List.nodup_nil⟩
  .simp[Aa,Aw.toI,Bs,Dz]
  .show Utf.Al Dz=true;rfl
 |text s=>
  simp only[Av]at h;exact⟨by simp[Aa,Aw.toI,Bs],fun e=>by simp[Aa,Aw.toI]at e,h.1,rfl,List.nodup_nil⟩
 |obj ks l=>
  simp only[Av]at h;exact⟨by simp[Aa,Aw.toI,Bs,Dz],fun e=>by simp[Aa,Aw.toI]at e,rfl,List.all_eq_true.2 h.1.right,h.1.nodup⟩
 |list l=>exact⟨by simp[Aa,Aw.toI,Bs,Dz],fun e=>by simp[Aa,Aw.toI]at e,rfl,rfl,List.nodup_nil⟩
 |flag b=>exact⟨by simp[Aa,Aw.toI,Bs,Dz],fun e=>by simp[Aa,Aw.toI]at e,rfl,rfl,List.nodup_nil⟩
 |null=>exact⟨by simp[Aa,Aw.toI,Bs,Dz],fun e=>by simp[Aa,Aw.toI]at e,rfl,rfl,List.nodup_nil⟩
theorem U8(h:Av t):CF (Aa t).toI (Ab t)=t:=by
 cases t with
 |num b=>simp only[Av]at h;simp[CF,Aa,Aw.toI,h.2.2]
 |obj ks l=>simp only[Av]at h;simp[CF,Aa,Aw.toI,Ab,h.1.objT h.2.1]
 |_=>simp[CF,Aa,Aw.toI,Ab]
theorem Av.keysLen(h:Av t):∀ks l,t= .obj ks l->ks.length=l.length:=by
 intro ks l e;subst e;exact h.2.1
theorem Gp(h:Av t)(f:(Ag t).within=true)(row:List Tr):DS (row++Ab t) [(Aa t).toI]=nM (row++[t]):=by
 have a:=WY t h.keysLen
 have c:(row++Ab t).drop ((row++Ab t).length-Hn (Aa t).toI)=Ab t:=by
  rw[a,Qk,Nat.add_sub_cancel,List.drop_left]
 have e:(row++Ab t).take ((row++Ab t).length-Hn (Aa t).toI)=row:=by
  rw[a,Qk,Nat.add_sub_cancel,List.take_left]
 have b:AF (Aa t).toI (row++Ab t)=t:=by
  unfold AF;rw[c];exact U8 h
 have d:Ds (Aa t).toI (row++Ab t)=true:=by
  unfold Ds;rw[YC h,b,f,a];simp
 simp only[DS,d,if_true];unfold NW;rw[e,b]
theorem Il{row r:List Tr}{l m:List Ap}(h:DS row l=nM r):DS row (l++m)=DS r m:=by
 induction l generalizing row with
 |nil=>simp[DS]at h;subst h;rfl
 |cons s l b=>
  simp only[Qo,DS]at h|-;split at h
  .rename_i a;rw[Qr a];exact b h
  .cases h
mutual
theorem yz{p:Prop}(h:p:=by have:=Gp h hw row;simpa[Ai,Ab]using this):p:=h
theorem OD:∀(t:Tr) (row:List Tr),Av t->(Ag t).within=true->DS row ((Ai t).map Aw.toI)=nM (row++[t])
 | .null,row,h,hw=>by have:=Gp h hw row;simpa[Ai,Ab]using this
 | .flag b,row,h,hw=>yz
 | .num n,row,h,hw=>yz
 | .text s,row,h,hw=>yz
 | .list l,row,h,hw=>by
  simp only[Ai,List.map_append,List.map_cons,List.map_nil];rw[Il (Jr l row h.items fun u hu=>C8 (t:= .list l) hw hu)];exact Gp h hw row
 | .obj ks l,row,h,hw=>by
  simp only[Ai,List.map_append,List.map_cons,List.map_nil];rw[Il (Jr l row h.items fun u hu=>C8 (t:= .obj ks l) hw hu)];exact Gp h hw row
theorem Jr:∀(l:List Tr) (row:List Tr),(∀u∈l,Av u)->(∀u∈l,(Ag u).within=true)->DS row ((BI l).map Aw.toI)=nM (row++l)
 |[],row,_,_=>by simp[BI,DS]
 |t::l,row,h,hw=>by
  simp only[BI,List.map_append];rw[Il (OD t row (h t Zh) (hw t Zh)),Jr l (row++[t]) (fun u hu=>h u (by simp[hu])) fun u hu=>hw u (by simp[hu])];simp
end
variable{s:BY}{o:Bq}{ts:List BY}{v:List CW}{xs:List Vl}{g n sz:Nat}{F G:Nat->Prop}{e:Ti}{a p t u x:Tr}{f:Tr->Tr}{sv:Vl}{w w':Wl}
theorem FE(h:Av t)(a:(Ag t).within=true):AS ((Ai t).map Aw.toI)=nM t:=by
 unfold AS;rw[List.length_map,BL,Qr (Ar a).1];unfold CA;rw[OD t [] h a];rfl
theorem V4{i:Nat}(h:D6 t s=nM i)(a:(Ab t)[i]? =nM u):AW t ((Ab t).set i u)=t:=by
 obtain⟨hi,rfl⟩:=Qc.1 a;rw[List.set_getElem_self];rcases IA h with⟨l,rfl⟩|⟨ks,l,rfl⟩<;>rfl
theorem WX:∀{t p:Tr},Ah t ts=nM p->f p=p->Bz f t ts=t:=by
 induction ts with
 |nil=>intro t p h a;simp only[Ah]at h;injection h with h;subst h;exact a
 |cons s r e=>
  intro t p h a;obtain⟨i,v,b,c,d⟩:=CC h;rw[BF b c,e d a,V4 b c]
structure ZL(o:Bq):Prop where
 path:o.path.size<=2147483648
 frm:o.frm.size<=2147483648
 steps:∀s∈o.steps,Di s
structure Bt(t:Tr):Prop where
 good:Av t
 fits:(Ag t).within=true
theorem FD{l:List Ap}(a:∀s∈l,Di s)(h:AS l=nM t):Bt t:=by
 unfold AS at h;split at h
 .rename_i b;refine⟨SW a b h, ?_⟩;unfold CA at h;split at h
  .rename_i r c;injection h with h
   subst h;exact(Jq (row:=[]) (fun t d=>by cases d) c).1 _ Zh
  .cases h
 .cases h
theorem Bt.lead:∀{t u:Tr},Bt t->Ah t ts=nM u->Bt u:=by
 induction ts with
 |nil=>intro t u h a;simp only[Ah]at a;injection a with a;exact a▸h
 |cons s r e=>
  intro t u h a;obtain⟨i,v,f,c,d⟩:=CC a;have b:=Qi c;exact e ⟨h.good.items v b,C8 h.fits b⟩ d
theorem Bt.many(h:Bt t):(Ab t).length<65536:=Q6 (Bj t) (Ar h.fits).1
structure DR(ts:List BY):Prop where
 right:∀s∈ts,Utf.Al s=true
 small:∀s∈ts,s.size<=2147483648
 many:ts.length<=65536
theorem PK(h:AD s=nM ts)(a:s.size<=2147483648):DR ts:=
 ⟨Pn h,fun t b=>Q7 (Lf h t b) a,NK h⟩
theorem Re(h:ts≠[]):AH ts∈ts:=by
 have a:AH ts∈ts.dropLast++[AH ts]:=Zh;rwa[CL ts h]at a
theorem DR.last(h:DR ts)(a:ts≠[]):Utf.Al (AH ts)=true/\(AH ts).size<=2147483648:=⟨h.right _ (Re a),h.small _ (Re a)⟩
theorem Ol(b:ts≠[])(h:EN t ts=0):∃p,Ah t ts.dropLast=nM p/\Gg (AH ts) p=0:=by
 unfold EN at h;rw[Qs b]at h;cases a:Ah t ts.dropLast with
 |none=>rw[a]at h;cases h
 |some p=>rw[a]at h;exact⟨p,rfl,h⟩
theorem Bt.add(h:Bt t)(d:Bt x)(j:DR ts)(f:EN t ts=0)(e:(Ag (At t ts x)).within=true):Bt (At t ts x):=by
 refine⟨?_,e⟩;unfold At;by_cases a:ts=[]
 .rw[Qr a];exact d.good
 .rw[Qs a];obtain⟨p,b,k⟩:=Ol a f;have c:=h.lead b;obtain⟨g,i⟩:=j.last a;exact h.good.mod b (c.good.add d.good g i c.many)
theorem Bt.set(h:Bt t)(c:Bt x)(b:Ah t ts=nM u)(a:(Ag (AE t ts x)).within=true):Bt (AE t ts x):=
 ⟨h.good.mod b c.good,a⟩
theorem QC(m:Av p)(h:Dy p s=nM u):(Ag (CT s p)).nodes+(Ag u).nodes=(Ag p).nodes/\(Ag (CT s p)).bytes<=(Ag p).bytes/\(Ag (CT s p)).depth<=(Ag p).depth/\
  (∀b,(b=match p with| .obj _ _=>s.size|_=>0)->(Ag (CT s p)).bytes+(Ag u).bytes+b=(Ag p).bytes):=by
 obtain⟨i,a,c⟩:=Km h;cases p with
 |list l=>
  simp only[Ab]at c;have f:CT s (.list l)= .list (l.eraseIdx i):=by unfold CT;rw[a]
  rw[f];have d:=(Kc c u).1;simp only[Ag,d,Sz.add,Sz.over];refine⟨Zj,Zj,Zj,fun b e=>by subst e;omega⟩
 |obj ks l=>
  simp only[Ab]at c;have f:CT s (.obj ks l)= .obj (ks.eraseIdx i) (l.eraseIdx i):=by unfold CT;rw[a]
  rw[f];have d:=(Kc c u).1
  have k:ks[i]? =nM s:=by
   simp only[D6]at a;split at a
   .rename_i j;injection a with a;rw[<-a];exact Gk (Cp.1 j)
   .cases a
  have g:=IW k;simp only[Ag,d,g,Sz.add,Sz.over];refine⟨Zj,Zj,Zj,fun b e=>by subst e;omega⟩
 |_=>simp[D6]at a
theorem yC{p:Prop}(h:p:=by simp only[AW,Ab,Ag]at*;rw[d,e];simp only[Sz.add,Sz.over];omega):p:=h
theorem WO:∀{t p:Tr},Ah t ts=nM p->(Ag (f p)).nodes<=(Ag p).nodes->(Ag (f p)).bytes<=(Ag p).bytes->(Ag (f p)).depth<=(Ag p).depth->
  (Ag (Bz f t ts)).nodes<=(Ag t).nodes/\(Ag (Bz f t ts)).bytes<=(Ag t).bytes/\(Ag (Bz f t ts)).depth<=(Ag t).depth:=by
 induction ts with
 |nil=>intro t p h a b c;simp only[Ah]at h;injection h with h;subst h;exact⟨a,b,c⟩
 |cons s r m=>
  intro t p h a b c;obtain⟨i,v,g,j,k⟩:=CC h;obtain⟨n,o,q⟩:=m k a b c;rw[BF g j];obtain⟨d,e⟩:=Kc j (Bz f v r);rcases IA g with⟨l,rfl⟩|⟨ks,l,rfl⟩
  .exact yC
  .exact yC
theorem Jj(b:ts≠[])(h:Ah t ts=nM u):∃p,Ah t ts.dropLast=nM p/\Dy p (AH ts)=nM u:=by
 rw[<-CL ts b,BW]at h;cases a:Ah t ts.dropLast with
 |none=>rw[a]at h;cases h
 |some p=>rw[a]at h;exact⟨p,rfl,by simpa using h⟩
theorem Bt.cut(h:Bt t)(i:ts≠[])(g:Ah t ts=nM u):Bt (A8 t ts):=by
 obtain⟨p,a,e⟩:=Jj i g;have b:=h.lead a;obtain⟨j,c,d,_⟩:=QC b.good e;obtain⟨k,l,m⟩:=WO (f:=CT (AH ts)) a Zj c d;have:=Ar h.fits;refine⟨h.good.mod a b.good.cut, ?_⟩;unfold A8 Sz.within;simp;omega
theorem Ib{u:List CW}(h:Kj t u= .yes a v):a=t/\v=u/\(Ag t).within=true:=by
 unfold Kj at h;split at h
 .injection h with b c;exact⟨b.symm,c.symm,by assumption⟩
 .cases h
theorem Fd{m:List CW}(h:Ga t ts x m= .yes a v):EN t ts=0/\a=At t ts x/\v=Dd t ts::m/\(Ag (At t ts x)).within=true:=by
 unfold Ga at h;split at h
 .cases h
 .rename_i b;obtain⟨c,d,e⟩:=Ib h;exact⟨by simpa using b,c,d,e⟩
theorem Jb{a:BY}(h:AD a=nM ts)(b:EV a ⟨#[]⟩=false):ts=[]:=by
 cases ts with
 |nil=>rfl
 |cons t l=>
  have:=JZ h;have c:a.data.toList=47::(esc t.data.toList++Bl (l.map fun t=>t.data.toList)):=by rw[<-this];rfl
  unfold EV at b;rw[c]at b;simp at b
theorem D7{a:BY}(h:AD a=nM ts):ts=[]↔a=⟨#[]⟩:=by
 constructor
 .intro e;subst e;rw[<-JZ h];rfl
 .intro e;subst e
  have:AD ⟨#[]⟩=nM []:=by
   have:=FT (ts:=[]) (fun t b=>by cases b) Zh;exact this
  rw[this]at h;injection h with h;exact h.symm
theorem LX{w:Tr}(h:Bt t)(n:ZL o)(a:Gz t o= .yes w v):Bt w:=by
 unfold Gz at a;split at a
 .cases a
 .rename_i c;have c:Bn o=0:=by simpa using c
  unfold Bn at c;split at c
  .cases c
  .rename_i z;split at c
   .cases c
   .rename_i i;split at c
    .cases c
    .rename_i s;simp only[not_or,not_and]at z i s;obtain⟨path,j⟩:=Option.ne_none_iff_exists'.1 i.1;have l:=PK j n.path;rw[j,Option.getD_some]at a
     have m:AN o.kind=true->Bt ((AS o.steps).getD .null):=by
      intro A;have:=s A;cases p:AS o.steps with
      |none=>rw[p]at this;simp at this
      |some x=>exact FD n.steps p
     unfold Da at a;split at a
     .rename_i B;obtain⟨g,rfl,_,d⟩:=Fd a;exact h.add (m (by rw[B];rfl)) l g d
     .split at a
      .split at a
       .cases a
       .rename_i k;cases b:Ah t path with
        |none=>rw[b]at a;cases a
        |some u=>rw[b]at a;injection a with a _;subst a;exact h.cut k b
      .split at a
       .rename_i C;cases b:Ah t path with
        |none=>rw[b]at a;cases a
        |some u=>
         rw[b]at a;obtain⟨rfl,_,d⟩:=Ib a;exact h.set (m (by rw[C];rfl)) b d
       .split at a
        .rename_i D;split at a
         .cases a
         .rename_i q;cases f:AD o.frm with
          |none=>exact absurd f (i.2 (by rw[D];rfl))
          |some frm=>
           rw[f,Option.getD_some]at a;cases b:Ah t frm with
           |none=>rw[b]at a;cases a
           |some u=>
            rw[b]at a;simp only at a;split at a
            .injection a with a _;subst a;exact h
            .rename_i r;obtain⟨g,rfl,_,d⟩:=Fd a
             have k:frm≠[]:=by
              intro e;subst e;have y:=(D7 f).1 rfl;rw[y]at q r;have:=Jb j (by simpa using q);exact r ((D7 j).1 this)
             exact(h.cut k b).add (h.lead b) l g d
        .split at a
         .rename_i E;cases f:AD o.frm with
          |none=>exact absurd f (i.2 (by rw[E];rfl))
          |some frm=>
           rw[f,Option.getD_some]at a;cases b:Ah t frm with
           |none=>rw[b]at a;cases a
           |some u=>
            rw[b]at a;obtain⟨g,rfl,_,d⟩:=Fd a;exact h.add (h.lead b) l g d
         .cases b:Ah t path with
          |none=>rw[b]at a;cases a
          |some u=>
           rw[b]at a;simp only at a;split at a
           .injection a with a _;subst a;exact h
           .cases a
theorem Td(h:Ah t ts=nM p):ts.length+(Ag p).depth<=(Ag t).depth:=by
 have g:=Eg.mod (f:=fun u=>u) h (Eg.here (Ag p) (Ag p));rw[WX h rfl]at g;have:=g.low;omega
def NC(p:Tr)(s:BY):Nat:=match p with
 | .obj _ _=>s.size
 |_=>0
theorem MR(h:Bt t)(d:ts≠[])(a:Ah t ts.dropLast=nM p)(i:Gg (AH ts) p=0)(j:∀ks l,p= .obj ks l->C4 ks (AH ts)=false):
  (Ag (At t ts x)).nodes=(Ag t).nodes+(Ag x).nodes/\(Ag (At t ts x)).bytes=(Ag t).bytes+(Ag x).bytes+NC p (AH ts)/\
  (Ag (At t ts x)).within=(decide ((Ag t).nodes+(Ag x).nodes<=65536)&&decide ((Ag t).bytes+(Ag x).bytes+NC p (AH ts)<=2097152)&&decide (ts.length+(Ag x).depth<=512)):=by
 have e:At t ts x=Bz (Cj (AH ts) x) t ts.dropLast:=by unfold At;rw[Qs d]
 have k:=h.lead a;obtain⟨m,n,o,q⟩:=VA (x:=x) k.good i j (NC p (AH ts)) (by unfold NC;cases p<;>rfl);have g:=Eg.mod (f:=Cj (AH ts) x) a (Eg.here (Ag p) (Ag (Cj (AH ts) x p)));rw[<-e]at g;have r:=Td a;have u:=Ar h.fits;have s:ts.dropLast.length+1=ts.length:=by have:=List.length_pos_iff.2 d;simp;omega
 have v:=g.nodes;have w:=g.bytes;have y:=g.up;have z:=g.low;have b:(Ag (At t ts x)).nodes=(Ag t).nodes+(Ag x).nodes:=Zj;have c:(Ag (At t ts x)).bytes=(Ag t).bytes+(Ag x).bytes+NC p (AH ts):=Zj;refine⟨b,c, ?_⟩;unfold Sz.within;rw[b,c]
 congr 1
 exact yB
theorem J4(h:Bt t)(a:Ah t ts=nM u):
  (Ag (AE t ts x)).nodes+(Ag u).nodes=(Ag t).nodes+(Ag x).nodes/\(Ag (AE t ts x)).bytes+(Ag u).bytes=(Ag t).bytes+(Ag x).bytes/\
  (Ag (AE t ts x)).within=(decide ((Ag t).nodes+(Ag x).nodes-(Ag u).nodes<=65536)&&decide ((Ag t).bytes+(Ag x).bytes-(Ag u).bytes<=2097152)&&decide (ts.length+(Ag x).depth<=512)):=by
 have g:=XM (x:=x) a;exact⟨g.nodes,g.bytes,PM g h.fits⟩
theorem R9(h:Bt t)(i:ts≠[])(e:Ah t ts=nM u)(b:Ah t ts.dropLast=nM p):
  (Ag (A8 t ts)).nodes+(Ag u).nodes=(Ag t).nodes/\(Ag (A8 t ts)).bytes+(Ag u).bytes+NC p (AH ts)=(Ag t).bytes:=by
 obtain⟨m,a,d⟩:=Jj i e;rw[b]at a;injection a with a;subst a
 have j:=h.lead b;obtain⟨c1,_,_,c⟩:=QC j.good d;have c:=c (NC p (AH ts)) (by unfold NC;cases p<;>rfl);have g:=Eg.mod (f:=CT (AH ts)) b (Eg.here (Ag p) (Ag (CT (AH ts) p)));have k:=g.nodes;have l:=g.bytes;unfold A8;omega
theorem T9{ks:List BY}{l:List Tr}(h:Bt t)(b:ts≠[])(a:Ah t ts.dropLast=nM (.obj ks l))(d:C4 ks (AH ts)=true):
  At t ts x=AE t ts x/\Ah t ts=nM (l.getD (A5 ks (AH ts)) .null)/\Dd t ts=⟨3,A6 ts,Dz,Ai (l.getD (A5 ks (AH ts)) .null)⟩:=by
 have w:ks.length=l.length:=(h.lead a).good.2.1;have y:=Dk (Cp.1 d);have k:A5 ks (AH ts)<l.length:=Zj;have m:D6 (.obj ks l) (AH ts)=nM (A5 ks (AH ts)):=by simp only[D6,Qr d]
 have hi:(Ab (.obj ks l))[A5 ks (AH ts)]? =nM (l[A5 ks (AH ts)]'k):=Q9 k;refine⟨?_, ?_, ?_⟩
 .unfold At AE;rw[Qs b]
  have e:Bz (fun _=>x) t (ts.dropLast++[AH ts])=Bz (Cj (AH ts) x) t ts.dropLast:=by
   rw[Gh]
   have p:∀(f g:Tr->Tr) (c:List BY) (t:Tr),Ah t c=nM (.obj ks l)->f (.obj ks l)=g (.obj ks l)->Bz f t c=Bz g t c:=by
    intro f g c;induction c with
    |nil=>intro t a j;simp only[Ah]at a;injection a with a;subst a;exact j
    |cons s r q=>
     intro t a j;obtain⟨i,v,n,o,u⟩:=CC a;rw[BF n o,BF n o,q v u j]
   refine p _ _ _ _ a ?_;rw[BF m hi];simp only[Cj,Qr d,Bz,AW,Ab]
  rw[CL ts b]at e;exact e.symm
 .have e:Ah t (ts.dropLast++[AH ts])=nM (l.getD (A5 ks (AH ts)) .null):=by
   rw[BW,a];simp only[Option.bind_some,Dy,m,hi];rw[List.getD_eq_getElem?_getD,Q9 k];rfl
  rwa[CL ts b]at e
 .unfold Dd;rw[Qs b,a];simp only[Option.getD_some,GF];rw[Qr d,CL ts b]
def CW.toI(r:CW):Bq:=⟨r.kind,r.path,r.frm,r.steps.map Aw.toI⟩
theorem Pv{l:List UInt8}(h:∀c∈l,c.toNat<128):CY l=true:=by
 induction l with
 |nil=>rfl
 |cons c l b=>rw[EQ _ _ (h c Zh)];exact b fun x a=>h x (by simp[a])
theorem O0(k:Nat):Utf.Al ⟨(Go.Lib.decDigits k).toArray⟩=true:=by
 rw[E8];refine Pv fun c a=> ?_;have:=List.all_eq_true.1 (DV k).2.1 c a;simp[Fi]at this;omega
theorem IX(n:Nat):∀k,k<10^n->(Go.Lib.decDigits k).length<=n\/n=0:=by
 induction n with
 |zero=>intro k _;exact .inr rfl
 |succ n c=>
  intro k b;left
  by_cases h:k<10
  .rw[(DV k).2.2.2.2 h];omega
  .rw[Go.Lib.decDigits,dif_neg h,Qk];have:k/10<10^n:=by rw[Nat.pow_succ]at b;omega
   rcases c (k/10) this with a|a
   .simp;omega
   .subst a;simp at b;omega
theorem Wj(g:1<=o.kind/\o.kind<=6)(d:AO o.kind=false)(e:AD o.path=nM ts)(f:AN o.kind=true->(AS o.steps).isSome=true):Bn o=0:=by
 unfold Bn;rw[Qs Zj,Qs (by rw[e,d];simp),Qs];rintro⟨a,b⟩;have:=f a;cases c:AS o.steps<;>simp[c]at this b
theorem Gd(c:1<=o.kind/\o.kind<=6)(b:AO o.kind=false)(a:AD o.path=nM ts)(d:AN o.kind=true->(AS o.steps).isSome=true):
  Gz t o=Da t o ts ((AD o.frm).getD []) ((AS o.steps).getD .null):=by
 unfold Gz;rw[Qs (by rw[Wj c b a d];simp),a];rfl
theorem DR.spot(h:DR ts)(e:ts≠[])(g:Bt p):DR (ts.dropLast++[Eo (AH ts) p]):=by
 have f:Utf.Al (Eo (AH ts) p)=true/\(Eo (AH ts) p).size<=2147483648:=by
  obtain⟨b,c⟩:=h.last e;cases p with
  |list l=>
   simp only[Eo];by_cases d:AH ts=IN
   .rw[Qr d];refine⟨O0 _, ?_⟩;have:=g.many;have:=(IX 5 l.length (by simp only[Ab]at this;omega)).resolve_right Zj;show(Go.Lib.decDigits l.length).toArray.size<=_
    rw[List.size_toArray];omega
   .rw[Qs d];exact⟨b,c⟩
  |_=>exact⟨b,c⟩
 refine⟨?_, ?_, ?_⟩
 .intro s a;rcases Qf.1 a with a|a
  .exact h.right s ((List.dropLast_sublist _).subset a)
  .simp at a;subst a;exact f.1
 .intro s a;rcases Qf.1 a with a|a
  .exact h.small s ((List.dropLast_sublist _).subset a)
  .simp at a;subst a;exact f.2
 .have:=h.many;have:=List.length_pos_iff.2 e;simp;omega
theorem BE(a:List BY)(s:BY):AH (a++[s])=s:=by unfold AH;simp
theorem KD:∀{l:List Bq} {t b:Tr} {u v:List CW} {i:Nat},Bt t->(∀o∈l,ZL o)->BR t u i l= .yes b v->Bt b
 |[],t,b,u,v,i,h,_,a=>by simp only[BR]at a;injection a with f _;exact f▸h
 |o::l,t,b,u,v,i,h,d,a=>by
  simp only[BR]at a;cases c:Gz t o with
  |no e=>rw[c]at a;cases a
  |yes j w=>rw[c]at a;exact KD (LX h (d o Zh) c) (fun x g=>d x (by simp[g])) a
def BJ(o:Bq)(sv:Vl):List Vl:=[nI nX o.kind,nG o.path,nG o.frm,sv]
def Cc(w:Wl):List Bq->List Vl->Prop
 |[],xs=>xs=[]
 |o::l,xs=>∃sv ys r,xs=BJ o sv++r/\As w sv 6 o.steps.length ys/\Az w o.steps ys/\Cc w l r
theorem Cc.kept(a:Chg w w' []):∀{l:List Bq} {xs:List Vl},Cc w l xs->Cc w' l xs
 |[],_,h=>h
 |o::l,_,⟨sv,ys,r,b,c,d,e⟩=>⟨sv,ys,r,b,c.kept a,d.kept a,e.kept a⟩
theorem Cc.length:∀{l:List Bq} {xs:List Vl},Cc w l xs->xs.length=l.length*4
 |[],_,h=>by unfold Cc at h;subst h;rfl
 |o::l,_,⟨sv,ys,r,a,_,_,b⟩=>by subst a;have:=b.length;simp[BJ];omega
theorem Cc.append:∀{l m:List Bq} {xs ys:List Vl},Cc w l xs->Cc w m ys->Cc w (l++m) (xs++ys)
 |[],_,_,_,h,k=>by unfold Cc at h;subst h;exact k
 |o::l,_,_,_,⟨sv,e,r,a,b,c,d⟩,k=>⟨sv,e,r++_,by rw[a,List.append_assoc],b,c,d.append k⟩
theorem Cc.get:∀{l:List Bq} {xs:List Vl},Cc w l xs->∀(i:Nat) (o:Bq),l[i]? =nM o->
  ∃sv ys,As w sv 6 o.steps.length ys/\Az w o.steps ys/\∀j v,(BJ o sv)[j]? =nM v->xs[i*4+j]? =nM v
 |[],_,_,i,o,b=>by simp at b
 |a::l,_,⟨sv,ys,r,d,e,f,g⟩,i,o,b=>by
  subst d;cases i with
  |zero=>
   simp at b;subst b;refine⟨sv,ys,e,f,fun j v c=> ?_⟩;have h:j<(BJ a sv).length:=(Qc.1 c).1;rw[Nat.zero_mul,Nat.zero_add,List.getElem?_append_left h,c]
  |succ i=>
   obtain⟨p,q,k,m,n⟩:=g.get i o (by simpa using b);refine⟨p,q,k,m,fun j v c=> ?_⟩;rw[List.getElem?_append_right (by simp[BJ];omega),<-n j v c]
   congr 1
   simp[BJ];omega
def SE(F:Nat->Prop)(a:Vl):Prop:=∀b o n c,a= nS (nM ⟨b,o,nN⟩) n c->F b
def i3(F:Nat->Prop)(w w':Wl):Prop:=∀b,F b->w'.heap[b]? =w.heap[b]?
theorem Chg.keepsB{bs:List Nat}(h:Chg w w' bs)(c:∀b,F b->b<w.heap.size)(e:∀b,b∈bs->¬F b):i3 F w w':=fun b a=>h.block b (c b a) fun d=>e b d a
theorem i3.keeps(h:i3 F w w'):BZ F w w':=fun b o a=>by unfold World.cell?;rw[show w'.heap[(⟨b,o,nN⟩:Addr).block]? =w.heap[(⟨b,o,nN⟩:Addr).block]? from h b a]
theorem Ba.toC(h:Ba w sv e sz n xs):As w sv sz n xs:=h.rowC h.1
theorem Ba.keptF(h:Ba w sv e sz n xs)(f:SE F sv)(j:i3 F w w'):Ba w' sv e sz n xs:=by
 obtain⟨b,c⟩:=h;refine⟨b,c.imp id ?_⟩;rintro⟨g,cap,a,rfl,d,i,r⟩;exact⟨g,cap,a,rfl,d,(j g (f g 0 _ _ rfl)).trans i,r⟩
theorem vS{c:Nat}{a:Array Vl}(d:w.heap[g]? =nM (nC a e (0,0)))(j:xs.length=n*sz)(b:n<=c)(f:c<=maxLen)(k:a.size=c*sz)(h:∀(i:Nat) v,xs[i]? =nM v->a[i]? =nM v):Ba w (nS (nM ⟨g,0,nN⟩) n c) e sz n xs:=by
 refine⟨j,.inr ⟨g,c,a,rfl,Nat.zero_le _,d,b,f,k,List.ext_getElem? fun i=> ?_⟩⟩;have l:n*sz<=c*sz:=Nat.mul_le_mul_right _ b;rw[List.getElem?_take];by_cases hi:i<n*sz
 .rw[Qr hi,Array.getElem?_toList,h i xs[i] (Q9 Zj),Q9 Zj]
 .rw[Qs hi,List.getElem?_eq_none Zj]
theorem Ba.ofBlk{cs:List Vl}(b:Ac w g cs e)(a:cs.length=n*sz)(c:n<=maxLen):Ba w (nS (nM ⟨g,0,nN⟩) n n) e sz n cs:=
 vS b a (Q8 _) c yu (fun i v d=>by simpa using d)
def Cr(w:Wl)(F:Nat->Prop):List Ap->List Vl->Prop
 |[],xs=>xs=[]
 |s::l,xs=>∃sk r,xs=AI s sk++r/\Ba w sk 9 1 s.keys.length (Ad s.keys)/\SE F sk/\Cr w F l r
def Eh(w:Wl)(F:Nat->Prop):List Bq->List Vl->Prop
 |[],xs=>xs=[]
 |o::l,xs=>∃sv ys r,xs=BJ o sv++r/\Ba w sv 55 6 o.steps.length ys/\SE F sv/\Cr w F o.steps ys/\Eh w F l r
theorem As.keptF{d:Vl}(h:As w d sz n xs)(m:SE F d)(p:BZ F w w'):As w' d sz n xs:=by
 obtain⟨a,c,e,j,k,l⟩:=h;refine⟨a,c,e,j,k,fun i v q=> ?_⟩;obtain⟨b,o,f,g⟩:=l i v q;subst f;exact⟨b,o,rfl,(p b _ (m b o n c e)).trans g⟩
theorem SE.mono{a:Vl}(h:SE F a)(d:∀b,F b->G b):SE G a:=fun b o n c e=>d b (h b o n c e)
theorem Cr.kept(d:i3 F w w')(c:∀b,F b->G b):∀{l:List Ap} {xs:List Vl},Cr w F l xs->Cr w' G l xs
 |[],_,h=>h
 |s::l,_,⟨sk,r,e,f,a,g⟩=>⟨sk,r,e,f.keptF a d,a.mono c,g.kept d c⟩
theorem Eh.kept(c:i3 F w w')(a:∀b,F b->G b):∀{l:List Bq} {xs:List Vl},Eh w F l xs->Eh w' G l xs
 |[],_,h=>h
 |o::l,_,⟨sv,ys,r,e,f,d,g,i⟩=>⟨sv,ys,r,e,f.keptF d c,d.mono a,g.kept c a,i.kept c a⟩
theorem Cr.toR:∀{l:List Ap} {xs:List Vl},Cr w F l xs->Az w l xs
 |[],_,h=>h
 |s::l,_,⟨sk,r,a,b,_,c⟩=>⟨sk,r,a,b.toC,c.toR⟩
theorem Eh.toIn:∀{l:List Bq} {xs:List Vl},Eh w F l xs->Cc w l xs
 |[],_,h=>h
 |o::l,_,⟨sv,ys,r,a,b,_,c,d⟩=>⟨sv,ys,r,a,b.toC,c.toR,d.toIn⟩
theorem Eh.append:∀{l m:List Bq} {xs ys:List Vl},Eh w F l xs->Eh w F m ys->Eh w F (l++m) (xs++ys)
 |[],_,_,_,h,k=>by unfold Eh at h;subst h;exact k
 |o::l,_,_,_,⟨sv,f,r,a,b,c,d,e⟩,k=>⟨sv,f,r++_,by rw[a,List.append_assoc],b,c,d,e.append k⟩
theorem Eh.length{l:List Bq}(h:Eh w F l xs):xs.length=l.length*4:=h.toIn.length
theorem Cr.append:∀{l m:List Ap} {xs ys:List Vl},Cr w F l xs->Cr w F m ys->Cr w F (l++m) (xs++ys)
 |[],_,_,_,h,k=>by unfold Cr at h;subst h;exact k
 |s::l,_,_,_,⟨sk,r,a,b,c,d⟩,k=>⟨sk,r++_,by rw[a,List.append_assoc],b,c,d.append k⟩
theorem C0(s:Ap)(a:Option Addr)(n c:Nat):∀u∈AI s (nS a n c),u.oneCell'=true:=by
 intro u b;simp only[AI,Qh,List.not_mem_nil,or_false]at b;rcases b with rfl|rfl|rfl|rfl|rfl|rfl<;>rfl
theorem Cr.one:∀{l:List Ap} {xs:List Vl},Cr w F l xs->∀u∈xs,u.oneCell'=true
 |[],_,h,u,b=>by unfold Cr at h;subst h;cases b
 |s::l,_,⟨sk,r,d,e,_,f⟩,u,b=>by
  subst d;obtain⟨a,c,rfl,_⟩:=e.form;rcases Qf.1 b with b|b
  .exact C0 s a _ c u b
  .exact f.one u b
theorem Dx(o:Bq)(a:Option Addr)(n c:Nat):∀u∈BJ o (nS a n c),u.oneCell'=true:=by
 intro u b;simp only[BJ,Qh,List.not_mem_nil,or_false]at b;rcases b with rfl|rfl|rfl|rfl<;>rfl
theorem Cc.one:∀{l:List Bq} {xs:List Vl},Cc w l xs->∀u∈xs,u.oneCell'=true
 |[],_,h,u,b=>by unfold Cc at h;subst h;cases b
 |o::l,_,⟨sv,ys,r,d,e,_,f⟩,u,b=>by
  subst d;obtain⟨a,c,rfl,_⟩:=e.form;rcases Qf.1 b with b|b
  .exact Dx o a _ c u b
  .exact f.one u b
def SB:BY:=⟨#[111,112]⟩
def Fj:BY:=⟨#[112,97,116,104]⟩
def Oa:BY:=⟨#[102,114,111,109]⟩
def SZ:BY:=⟨#[118,97,108,117,101]⟩
def Ec(k:Nat):BY:=
 if k=1 then⟨#[97,100,100]⟩else if k=2 then⟨#[114,101,109,111,118,101]⟩else if k=3 then⟨#[114,101,112,108,97,99,101]⟩
 else if k=4 then⟨#[109,111,118,101]⟩else if k=5 then⟨#[99,111,112,121]⟩else if k=6 then⟨#[116,101,115,116]⟩else⟨#[]⟩
def Ze(k:Nat)(path frm:BY)(x:Tr):Tr:=
 if k=4\/k=5 then .obj [Oa,SB,Fj] [.text frm,.text (Ec k),.text path]
 else if k=1\/k=3\/k=6 then .obj [SB,Fj,SZ] [.text (Ec k),.text path,x]
 else .obj [SB,Fj] [.text (Ec k),.text path]
inductive ZW where
 |no (e:Nat) (at_:Int)
 |yes (t:Tr)
def OK(o:Bq):Tr:=Ze o.kind.toNat o.path o.frm ((AS o.steps).getD .null)
def Sp:List Tr->Nat->List Bq->ZW
 |l,_,[]=> .yes (.list l)
 |l,i,o::r=>if Bn o≠0 then .no (Bn o) i else if(Ag (.list (l++[OK o]))).within=true then Sp (l++[OK o]) (i+1) r else .no 3 i
def Ob(s:BY):Nat:=if s=Ec 1 then 1 else if s=Ec 2 then 2 else if s=Ec 3 then 3 else if s=Ec 4 then 4 else if s=Ec 5 then 5 else if s=Ec 6 then 6 else 0
inductive ZU where
 |no (e:Nat) (p:BY)
 |yes (s:BY)
inductive ap where
 |no (e:Nat) (p:BY)
 |yes (o:CW)
def Zb:BY:=⟨#[47]⟩
def X1(p a:BY):BY:=p++Zb++a
def E4(ks:List BY)(l:List Tr)(p a:BY):ZU:=
 if C4 ks a=true then(match l.getD (A5 ks a) .null with
  | .text s=> .yes s
  |_=> .no 5 (X1 p a))else .no 4 p
def RL(ks:List BY)(l:List Tr)(p a:BY):ZU:=match E4 ks l p a with
 | .no e q=> .no e q
 | .yes s=>if(AD s).isSome=true then .yes s else .no 171 (X1 p a)
def Xi(ks:List BY)(l:List Tr)(p:BY):ap:=match E4 ks l p SB with
 | .no e q=> .no e q
 | .yes s=>if Ob s=0 then .no 170 (X1 p SB)else match RL ks l p Fj with
  | .no e q=> .no e q
  | .yes path=>match(if AO (Ob s)=true then RL ks l p Oa else .yes Dz)with
   | .no e q=> .no e q
   | .yes frm=>if AN (Ob s)=true then(if C4 ks SZ=true then .yes ⟨Ob s,path,frm,Ai (l.getD (A5 ks SZ) .null)⟩else .no 4 p)else .yes ⟨Ob s,path,frm,[]⟩
def XP(i:Nat):BY:=Zb++⟨(Go.Lib.decDigits i).toArray⟩
theorem S9{k:Nat}(h:1<=k/\k<=6):Ob (Ec k)=k:=by
 have:k=1\/k=2\/k=3\/k=4\/k=5\/k=6:=Zj;rcases this with rfl|rfl|rfl|rfl|rfl|rfl<;>decide
def WZ(o:Bq):CW:=⟨o.kind.toNat,o.path,if AO o.kind=true then o.frm else Dz,if AN o.kind=true then Ai ((AS o.steps).getD .null)else []⟩
theorem EK(h:Bn o=0):(1<=o.kind/\o.kind<=6)/\(∃ts,AD o.path=nM ts)/\(AO o.kind=true->∃ts,AD o.frm=nM ts)/\(AN o.kind=true->∃x,AS o.steps=nM x):=by
 unfold Bn at h;split at h
 .cases h
 .rename_i e;split at h
  .cases h
  .rename_i a;split at h
   .cases h
   .rename_i b;simp only[not_or,not_and]at e a b;refine⟨Zj,Option.ne_none_iff_exists'.1 a.1,fun d=>Option.ne_none_iff_exists'.1 (a.2 d),fun f=> ?_⟩;have:=b f;cases c:AS o.steps with
    |none=>rw[c]at this;simp at this
    |some x=>exact⟨x,rfl⟩
theorem Xj(h:Bn o=0)(p:BY):∃ks l,OK o= .obj ks l/\Xi ks l p= .yes (WZ o):=by
 obtain⟨u,⟨ts,f⟩,m,s⟩:=EK h;obtain⟨k,r⟩:∃k:Nat,o.kind=k:=⟨o.kind.toNat,Zj⟩;have q:1<=k/\k<=6:=Zj;have e:o.kind.toNat=k:=Zj;unfold OK Ze WZ;rw[r]at m s|-;simp only[Int.toNat_natCast];have g:=S9 q;have i:¬k=0:=Zj;by_cases c:k=4\/k=5
 .have u1:AO (k:Int)=true:=by rcases c with rfl|rfl<;>rfl
  have u2:AN (k:Int)=false:=by rcases c with rfl|rfl<;>rfl
  obtain⟨t,n⟩:=m u1;rw[Qr c,Qr u1,u2];refine⟨_,_,rfl, ?_⟩;have a:E4 [Oa,SB,Fj] [.text o.frm,.text (Ec k),.text o.path] p SB= .yes (Ec k):=rfl;have b:E4 [Oa,SB,Fj] [.text o.frm,.text (Ec k),.text o.path] p Fj= .yes o.path:=rfl;have j:E4 [Oa,SB,Fj] [.text o.frm,.text (Ec k),.text o.path] p Oa= .yes o.frm:=rfl;unfold Xi RL;rw[a,b,j];simp only[i,if_false,f,n,g,u1,u2,Option.isSome_some,if_true,Bool.false_eq_true]
 .have u1:AO (k:Int)=false:=by unfold AO;simp;omega
  rw[Qs c,u1];by_cases d:k=1\/k=3\/k=6
  .have u2:AN (k:Int)=true:=by rcases d with rfl|rfl|rfl<;>rfl
   rw[Qr d,Qr u2];refine⟨_,_,rfl, ?_⟩;generalize (AS o.steps).getD .null=x
   have a:E4 [SB,Fj,SZ] [.text (Ec k),.text o.path,x] p SB= .yes (Ec k):=rfl;have b:E4 [SB,Fj,SZ] [.text (Ec k),.text o.path,x] p Fj= .yes o.path:=rfl;have j:C4 [SB,Fj,SZ] SZ=true:=rfl;unfold Xi RL;rw[a,b,j];simp only[i,if_false,f,g,u1,u2,Option.isSome_some,if_true,Bool.false_eq_true];rfl
  .have u2:AN (k:Int)=false:=by unfold AN;simp;omega
   rw[Qs d,u2];refine⟨_,_,rfl, ?_⟩;have a:E4 [SB,Fj] [.text (Ec k),.text o.path] p SB= .yes (Ec k):=rfl;have b:E4 [SB,Fj] [.text (Ec k),.text o.path] p Fj= .yes o.path:=rfl;unfold Xi RL;rw[a,b];simp only[i,if_false,f,g,u1,u2,Option.isSome_some,if_true,Bool.false_eq_true]
theorem XY:∀{b:List Bq} {l:List Tr} {i:Nat} {t:Tr},Sp l i b= .yes t->(∀o∈b,Bn o=0)/\t= .list (l++b.map OK)
 |[],l,i,t,h=>by simp only[Sp]at h;injection h with h;exact⟨fun o f=>(by cases f),by simp[h]⟩
 |o::r,l,i,t,h=>by
  simp only[Sp]at h;split at h
  .cases h
  .rename_i c;split at h
   .obtain⟨d,e⟩:=XY h;refine⟨fun x a=> ?_,by rw[e];simp⟩;rcases Qh.1 a with rfl|a
    .simpa using c
    .exact d x a
   .cases h
end
end Go.Proofs.YtamgbmcchhmojaaGreatDoor

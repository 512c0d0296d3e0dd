/- Part 12 of the proof of coreBase. -/
import Derived.Test.YtkfnkppdhcaeoaaGreatDoorM10
set_option maxRecDepth 100000
set_option maxHeartbeats 32000000
set_option linter.all false
namespace Go.Proofs.YtkfnkppdhcaeoaaGreatDoor
open Go renaming TypeId->Ti,Value->Vl,World->Wl
open Go.Value renaming agg->nA,iface->nF,pointer->nP,slice->nS,string->nG
open Option renaming none->nN,some->nM
section
open Go Go.RowKit Tree Ptr
structure CW where
 kind:Nat
 path:BY
 frm:BY
 steps:List Aw
structure Bq where
 kind:Int
 path:BY
 frm:BY
 steps:List Ap
def IN:BY:=⟨#[45]⟩
def C4(ks:List BY)(s:BY):Bool:=ks.any fun k=>decide (k=s)
theorem Cp{ks:List BY}{s:BY}:C4 ks s=true↔s∈ks:=by
 unfold C4;simp
def D6:Tr->BY->Option Nat
 | .list l,s=>bL s l.length
 | .obj ks _,s=>if C4 ks s=true then nM (A5 ks s)else nN
 |_,_=>nN
def Dy(t:Tr)(s:BY):Option Tr:=(D6 t s).bind fun i=>(Ab t)[i]?
def Ah:Tr->List BY->Option Tr
 |t,[]=>nM t
 |t,s::r=>(Dy t s).bind fun u=>Ah u r
def AW:Tr->List Tr->Tr
 | .list _,m=> .list m
 | .obj ks _,m=> .obj ks m
 |t,_=>t
def Bz(f:Tr->Tr):Tr->List BY->Tr
 |t,[]=>f t
 |t,s::r=>match D6 t s with
  |some i=>match(Ab t)[i]? with
   |some u=>AW t ((Ab t).set i (Bz f u r))
   |none=>t
  |none=>t
def CT(s:BY)(t:Tr):Tr:=match D6 t s with
 |some i=>match t with
  | .list l=> .list (l.eraseIdx i)
  | .obj ks l=> .obj (ks.eraseIdx i) (l.eraseIdx i)
  |t=>t
 |none=>t
def Cj(s:BY)(x:Tr):Tr->Tr
 | .list l=>if s=IN then .list (l++[x])else match bL s (l.length+1)with
  |some i=> .list (l.insertIdx i x)
  |none=> .list l
 | .obj ks l=>if C4 ks s=true then .obj ks (l.set (A5 ks s) x)else D1 (ks++[s]) (l++[x])
 |t=>t
def AH(ts:List BY):BY:=ts.getLastD Dz
def At(t:Tr)(ts:List BY)(x:Tr):Tr:=if ts=[]then x else Bz (Cj (AH ts) x) t ts.dropLast
def AE(t:Tr)(ts:List BY)(x:Tr):Tr:=Bz (fun _=>x) t ts
def A8(t:Tr)(ts:List BY):Tr:=Bz (CT (AH ts)) t ts.dropLast
def Gg(s:BY):Tr->Nat
 | .obj _ _=>0
 | .list l=>if s=IN then 0 else match D5 s.data.toList with
  |none=>172
  |some k=>if k<l.length+1 then 0 else 4
 |_=>5
def EN(t:Tr)(ts:List BY):Nat:=if ts=[]then 0 else match Ah t ts.dropLast with
 |none=>4
 |some p=>Gg (AH ts) p
def Eo(s:BY):Tr->BY
 | .list l=>if s=IN then⟨(Go.Lib.decDigits l.length).toArray⟩else s
 |_=>s
def GF(a:List BY)(s:BY)(p:Tr):CW:=match p with
 | .obj ks l=>if C4 ks s=true then⟨3,A6 (a++[s]),Dz,Ai (l.getD (A5 ks s) .null)⟩else⟨2,A6 (a++[s]),Dz,[]⟩
 |p=>⟨2,A6 (a++[Eo s p]),Dz,[]⟩
def Dd(t:Tr)(ts:List BY):CW:=if ts=[]then⟨3,Dz,Dz,Ai t⟩else
 GF ts.dropLast (AH ts) ((Ah t ts.dropLast).getD .null)
def AS(l:List Ap):Option Tr:=if l.length<=65536 then CA l else nN
def AO(k:Int):Bool:=decide (k=4)||decide (k=5)
def AN(k:Int):Bool:=decide (k=1)||decide (k=3)||decide (k=6)
def Bn(o:Bq):Nat:=
 if o.kind<1\/6<o.kind then 170
 else if AD o.path=nN\/(AO o.kind=true/\AD o.frm=nN)then 171
 else if AN o.kind=true/\(AS o.steps).isNone=true then 174 else 0
mutual
def BQ:Tr->Tr->Bool
 | .null,.null=>true
 | .flag a,.flag b=>a==b
 | .num a,.num b=>decide (a=b)
 | .text a,.text b=>decide (a=b)
 | .list a,.list b=>ER a b
 | .obj ks a,.obj ls b=>decide (ks=ls)&&ER a b
 |_,_=>false
def ER:List Tr->List Tr->Bool
 |[],[]=>true
 |a::l,b::m=>BQ a b&&ER l m
 |_,_=>false
end
inductive PV where
 |no (e:Nat)
 |yes (t:Tr) (undo:List CW)
def Kj(t:Tr)(a:List CW):PV:=if(Ag t).within=true then .yes t a else .no 3
def Ga(t:Tr)(ts:List BY)(x:Tr)(a:List CW):PV:=
 if EN t ts≠0 then .no (EN t ts)else Kj (At t ts x) (Dd t ts::a)
def EV(a b:BY):Bool:=(b.data.toList++[47]).isPrefixOf a.data.toList
def Da(t:Tr)(o:Bq)(a b:List BY)(x:Tr):PV:=
 if o.kind=1 then Ga t a x []
 else if o.kind=2 then(if a=[]then .no 176 else match Ah t a with
  |none=> .no 4
  |some u=> .yes (A8 t a) [⟨1,A6 a,Dz,Ai u⟩])
 else if o.kind=3 then(match Ah t a with
  |none=> .no 4
  |some u=>Kj (AE t a x) [⟨3,A6 a,Dz,Ai u⟩])
 else if o.kind=4 then(if EV o.path o.frm=true then .no 175 else match Ah t b with
  |none=> .no 4
  |some u=>if o.path=o.frm then .yes t []else Ga (A8 t b) a u [⟨1,A6 b,Dz,Ai u⟩])
 else if o.kind=5 then(match Ah t b with
  |none=> .no 4
  |some u=>Ga t a u [])
 else(match Ah t a with
  |none=> .no 4
  |some u=>if BQ u x=true then .yes t []else .no 173)
def Gz(t:Tr)(o:Bq):PV:=
 if Bn o≠0 then .no (Bn o)else Da t o ((AD o.path).getD []) ((AD o.frm).getD []) ((AS o.steps).getD .null)
inductive Zi where
 |no (e:Nat) (at_:Nat)
 |yes (t:Tr) (undo:List CW)
def BR:Tr->List CW->Nat->List Bq->Zi
 |t,u,_,[]=> .yes t u
 |t,u,i,o::l=>match Gz t o with
  | .no e=> .no e i
  | .yes a v=>BR a (v++u) (i+1) l
theorem Vu{t d:Tr}{u f v:List CW}{l:List Bq}{k i:Nat}{o:Bq}{s:Tr}(h:BR t u i (l.take k)= .yes d f)(b:l[k]? =nM o)(m:Gz d o= .yes s v):
  BR t u i (l.take (k+1))= .yes s (v++f):=by
 induction l generalizing t u i k with
 |nil=>simp at b
 |cons a l n=>
  cases k with
  |zero=>
   simp only[List.take_zero,BR]at h
   injection h with g j
   simp at b;subst g;subst j;subst b;simp[BR,m]
  |succ k=>
   simp only[List.take_succ_cons,BR]at h|-
   cases c:Gz t a with
   |no e=>rw[c]at h;cases h
   |yes p q=>
    rw[c]at h;exact n h (by simpa using b)
theorem Us{t d:Tr}{u n:List CW}{l:List Bq}{k i:Nat}{o:Bq}{e:Nat}(h:BR t u i (l.take k)= .yes d n)(b:l[k]? =nM o)(j:Gz d o= .no e):
  BR t u i l= .no e (i+k):=by
 induction l generalizing t u i k with
 |nil=>simp at b
 |cons a l m=>
  cases k with
  |zero=>
   simp only[List.take_zero,BR]at h
   injection h with f g
   simp at b;subst f;subst g;subst b;simp[BR,j]
  |succ k=>
   simp only[List.take_succ_cons,BR]at h|-
   cases c:Gz t a with
   |no e=>rw[c]at h;cases h
   |yes p q=>
    rw[c]at h;have:=m h (by simpa using b);rw[Nat.add_assoc,Nat.add_comm 1 k]at this;simp only;exact this
mutual
theorem KG:∀(a b:Tr),BQ a b=true↔a=b
 | .null,b=>by cases b<;>simp[BQ]
 | .flag a,b=>by cases b<;>simp[BQ]
 | .num a,b=>by cases b<;>simp[BQ]
 | .text a,b=>by cases b<;>simp[BQ]
 | .list a,b=>by
  cases b with
  |list m=>simp only[BQ,Gq a m];exact⟨fun h=>by rw[h],fun h=>by injection h⟩
  |_=>simp[BQ]
 | .obj ks a,b=>by
  cases b with
  |obj ls m=>simp only[BQ,Bool.and_eq_true,decide_eq_true_eq,Gq a m];exact⟨fun h=>by rw[h.1,h.2],fun h=>by injection h with h1 h2;exact⟨h1,h2⟩⟩
  |_=>simp[BQ]
theorem Gq:∀(a b:List Tr),ER a b=true↔a=b
 |[],b=>by cases b<;>simp[ER]
 |t::a,b=>by
  cases b with
  |nil=>simp[ER]
  |cons u m=>simp only[ER,Bool.and_eq_true,KG t u,Gq a m,List.cons.injEq]
end
theorem QX{t:Tr}{m:List Tr}{i:Nat}{s:BY}(h:D6 t s=nM i):Ab (AW t m)=m:=by
 cases t<;>first|rfl|(simp[D6]at h)
theorem CZ{a:Type}{l:List a}{i:Nat}{u:a}(h:l[i]? =nM u)(x:a):l=l.take i++u::l.drop (i+1)/\l.set i x=l.take i++x::l.drop (i+1):=by
 obtain⟨hi,rfl⟩:=Qc.1 h;refine⟨?_, ?_⟩
 .rw[List.getElem_cons_drop,List.take_append_drop]
 .rw[List.set_eq_take_append_cons_drop,Qr hi]
theorem C6{a:Type}(l:List a)(i:Nat):l.eraseIdx i=l.take i++l.drop (i+1):=List.eraseIdx_eq_take_drop_succ l i
theorem AQ{b:Type}(l:List b)(i:Nat)(h:i<=l.length)(x:b):l.insertIdx i x=l.take i++x::l.drop i:=by
 induction l generalizing i with
 |nil=>simp at h;subst h;rfl
 |cons a l c=>
  cases i with
  |zero=>rfl
  |succ i=>simp only[List.insertIdx_succ_cons,List.take_succ_cons,List.drop_succ_cons,Qo,c i (by simpa using h)]
theorem Kb(a b:List Tr)(x:Tr):Bk (a++x::b)=(Ag x).add (Bk (a++b)):=by
 have:(a++x::b).Perm (x::(a++b)):=List.perm_middle;rw[Sn this];rfl
theorem Kc{l:List Tr}{i:Nat}{u:Tr}(h:l[i]? =nM u)(x:Tr):Bk l=(Ag u).add (Bk (l.eraseIdx i))/\Bk (l.set i x)=(Ag x).add (Bk (l.eraseIdx i)):=by
 obtain⟨a,b⟩:=CZ h x;rw[C6,b];refine⟨?_,Kb _ _ _⟩
 conv=>lhs;rw[a]
 exact Kb _ _ _
theorem TX(l:List Tr)(i:Nat)(h:i<=l.length)(x:Tr):Bk (l.insertIdx i x)=(Ag x).add (Bk l):=by
 rw[AQ l i h,Kb,List.take_append_drop]
theorem Hx(a b:List BY):Ay (a++b)=Ay a+Ay b:=by unfold Ay;simp
theorem IW{ks:List BY}{i:Nat}{s:BY}(h:ks[i]? =nM s):Ay ks=s.size+Ay (ks.eraseIdx i):=by
 obtain⟨a,_⟩:=CZ h s;rw[C6]
 conv=>lhs;rw[a]
 simp[Ay];omega
structure Eg(a a' u u':Sz)(k:Nat):Prop where
 nodes:a'.nodes+u.nodes=a.nodes+u'.nodes
 bytes:a'.bytes+u.bytes=a.bytes+u'.bytes
 up:a'.depth<=max a.depth (k+u'.depth)
 low:k+u'.depth<=a'.depth
theorem Eg.here(u a:Sz):Eg u a u a 0:=⟨Zj,Zj,Zj,Zj⟩
theorem IA{t:Tr}{s:BY}{i:Nat}(h:D6 t s=nM i):(∃l,t= .list l)\/(∃ks l,t= .obj ks l):=by
 cases t with
 |list l=>exact .inl ⟨l,rfl⟩
 |obj ks l=>exact .inr ⟨ks,l,rfl⟩
 |_=>simp[D6]at h
theorem Eg.set{t:Tr}{s:BY}{i:Nat}{v a:Tr}{u c:Sz}{k:Nat}(j:D6 t s=nM i)(h:(Ab t)[i]? =nM v)(g:Eg (Ag v) (Ag a) u c k):
  Eg (Ag t) (Ag (AW t ((Ab t).set i a))) u c (k+1):=by
 obtain⟨e,f⟩:=Kc h a
 have d:∀b,Eg ((Bk (Ab t)).over b) ((Bk ((Ab t).set i a)).over b) u c (k+1):=by
  intro b;rw[e,f];have:=g.nodes;have:=g.bytes;have:=g.up;have:=g.low
  constructor<;>simp only[Sz.add,Sz.over]<;>omega
 rcases IA j with⟨l,rfl⟩|⟨ks,l,rfl⟩
 .simp only[AW,Ab,Ag];exact d 0
 .simp only[AW,Ab,Ag];exact d _
theorem Km{t u:Tr}{s:BY}(h:Dy t s=nM u):∃i,D6 t s=nM i/\(Ab t)[i]? =nM u:=by
 unfold Dy at h
 cases a:D6 t s with
 |none=>rw[a]at h;cases h
 |some i=>rw[a]at h;exact⟨i,rfl,h⟩
theorem CC{t u:Tr}{s:BY}{r:List BY}(h:Ah t (s::r)=nM u):∃i v,D6 t s=nM i/\(Ab t)[i]? =nM v/\Ah v r=nM u:=by
 unfold Ah at h
 cases a:Dy t s with
 |none=>rw[a]at h;cases h
 |some v=>
  rw[a]at h;obtain⟨i,b,c⟩:=Km a;exact⟨i,v,b,c,h⟩
theorem BF{f:Tr->Tr}{t v:Tr}{s:BY}{r:List BY}{i:Nat}(a:D6 t s=nM i)(b:(Ab t)[i]? =nM v):Bz f t (s::r)=AW t ((Ab t).set i (Bz f v r)):=by
 simp only[Bz,a,b]
theorem Gh{f:Tr->Tr}:∀{ts:List BY} {t:Tr} {s:BY},Bz f t (ts++[s])=Bz (fun u=>Bz f u [s]) t ts
 |[],t,s=>rfl
 |a::r,t,s=>by
  simp only[Qo,Bz]
  cases D6 t a with
  |none=>rfl
  |some i=>
   simp only
   cases (Ab t)[i]? with
   |none=>rfl
   |some u=>simp only;rw[Gh];rfl
theorem BW:∀{ts:List BY} {t:Tr} {s:BY},Ah t (ts++[s])=(Ah t ts).bind fun u=>Dy u s
 |[],t,s=>by simp[Ah]
 |a::r,t,s=>by
  simp only[Qo,Ah]
  cases Dy t a with
  |none=>rfl
  |some u=>simp only[Option.bind_some];exact BW
theorem Eg.mod{f:Tr->Tr}{ts:List BY}:∀{t u:Tr},Ah t ts=nM u->∀{a b:Sz} {k:Nat},Eg (Ag u) (Ag (f u)) a b k->Eg (Ag t) (Ag (Bz f t ts)) a b (k+ts.length):=by
 induction ts with
 |nil=>intro t u h a b k g;simp only[Ah]at h;injection h with h;subst h;simpa[Bz]using g
 |cons s r j=>
  intro t u h a b k g;obtain⟨i,v,c,d,e⟩:=CC h;rw[BF c d];have:=(j e g).set c d;rw[Qj,<-Nat.add_assoc];exact this
theorem XM{t u x:Tr}{ts:List BY}(h:Ah t ts=nM u):Eg (Ag t) (Ag (AE t ts x)) (Ag u) (Ag x) ts.length:=by
 have:=Eg.mod (f:=fun _=>x) h (Eg.here (Ag u) (Ag x));simpa[AE]using this
theorem PM{a c u b:Sz}{k:Nat}(g:Eg a c u b k)(d:a.within=true):
  c.within=(decide (a.nodes+b.nodes-u.nodes<=65536)&&decide (a.bytes+b.bytes-u.bytes<=2097152)&&decide (k+b.depth<=512)):=by
 have h:=Ar d;have:=g.nodes;have:=g.bytes;have:=g.up;have:=g.low;unfold Sz.within
 congr 1
 .congr 1
  .rw[decide_eq_decide];omega
  .rw[decide_eq_decide];omega
 .rw[decide_eq_decide];omega
theorem CL(ts:List BY)(h:ts≠[]):ts.dropLast++[AH ts]=ts:=by
 unfold AH;rw[List.getLastD_eq_getLast?,List.getLast?_eq_some_getLast h,Option.getD_some];exact List.dropLast_concat_getLast h
theorem Ys{ks:List BY}{s:BY}(h:¬C4 ks s=true):s∉ks:=fun g=>h (Cp.2 g)
theorem VA{s:BY}{x p:Tr}(q:Av p)(d:Gg s p=0)(y:∀ks l,p= .obj ks l->C4 ks s=false)(b:Nat)(j:b=match p with| .obj _ _=>s.size|_=>0):
  (Ag (Cj s x p)).nodes=(Ag p).nodes+(Ag x).nodes/\(Ag (Cj s x p)).bytes=(Ag p).bytes+(Ag x).bytes+b/\(Ag (Cj s x p)).depth<=max (Ag p).depth (1+(Ag x).depth)/\1+(Ag x).depth<=(Ag (Cj s x p)).depth:=by
 cases p with
 |list l=>
  simp only at j;subst j
  have r:∀m:List Tr,Bk m=(Ag x).add (Bk l)->(Ag (.list m)).nodes=(Ag (.list l)).nodes+(Ag x).nodes/\(Ag (.list m)).bytes=(Ag (.list l)).bytes+(Ag x).bytes+0/\(Ag (.list m)).depth<=max (Ag (.list l)).depth (1+(Ag x).depth)/\1+(Ag x).depth<=(Ag (.list m)).depth:=by
   intro m d;simp only[Ag,d,Sz.over,Sz.add];omega
  simp only[Cj];by_cases n:s=IN
  .rw[Qr n]
   exact r _ (by rw[show l++[x]=l++x::[]from rfl,Kb,List.append_nil])
  .rw[Qs n]
   simp only[Gg,Qs n]at d
   cases hi:bL s (l.length+1)with
   |none=>
    exfalso
    unfold bL at hi
    cases f:D5 s.data.toList with
    |none=>rw[f]at d;simp at d
    |some k=>
     rw[f]at hi d;simp only at hi d;split at hi
     .cases hi
     .rename_i w;rw[Qs w]at d;cases d
   |some i=>
    have:=Jf hi;exact r _ (TX l i Zj x)
 |obj ks l=>
  simp only at j;subst j;have f:=y ks l rfl;simp only[Av]at q;obtain⟨t,u,_⟩:=q;have B:s∉ks:=fun g=>by rw[Cp.2 g]at f;cases f
  have z:ks.Nodup:=t.rise.imp fun{a b} h e=>by subst e;have:=Utf.Gc a;omega
  have A:(ks++[s]).Nodup:=by
   rw[List.nodup_append];exact⟨z,Zh,fun a v c o=>by simp at o;subst o;exact fun e=>B (e▸v)⟩
  simp only[Cj];rw[Qs (by rw[f];simp),Kd A (by simp[u]),Hx,show l++[x]=l++x::[]from rfl,Kb,List.append_nil];simp only[Ag,Sz.over,Sz.add,Ay,List.map_cons,List.map_nil,List.sum_cons,List.sum_nil];omega
 |_=>simp[Gg]at d
theorem Cy.nodup{ks:List BY}(h:Cy ks):ks.Nodup:=h.rise.imp fun{a b} h e=>by subst e;have:=Utf.Gc a;omega
theorem Cy.sort{ks:List BY}(h:Cy ks):AY ks=ks:=by
 refine DU (fun s=>s) (DG ks) (Cs (fun s=>s) ks) (h.rise.imp fun{a b} h=>(DW (fun s=>s)).2 Zj) fun _ _ _ _ h=>h
theorem On{ks:List BY}{l:List Tr}(d:ks.Nodup)(c:ks.length=l.length):(ks.map fun s=>l.getD (A5 ks s) .null)=l:=by
 apply List.ext_getElem
 .rw[List.length_map,c]
 .intro i a b
  rw[List.getElem_map,GU d i (by simpa using a),List.getD_eq_getElem?_getD,Q9 b];rfl
theorem Cy.objT{ks:List BY}{l:List Tr}(h:Cy ks)(a:ks.length=l.length):D1 ks l= .obj ks l:=by
 unfold Tree.D1 LA;rw[h.sort,On h.nodup a]
theorem Lh{a:Type}(l:List a)(i:Nat)(h:i<=l.length)(x:a):(l.insertIdx i x).Perm (x::l):=by
 rw[AQ l i h]
 conv=>rhs;rw[<-List.take_append_drop i l]
 exact List.perm_middle
theorem If{ks:List BY}{l:List Tr}{s:BY}{x:Tr}{i:Nat}(h:Cy ks)(m:ks.length=l.length)(z:s∉ks)(hi:i<=ks.length)(p:∀t k,t<i->ks[t]? =nM k->Utf.BK k s<0)(q:∀t k,i<=t->ks[t]? =nM k->0<=Utf.BK k s):
  D1 (ks++[s]) (l++[x])= .obj (ks.insertIdx i s) (l.insertIdx i x):=by
 have w:(ks++[s]).Nodup:=by
  rw[List.nodup_append];exact⟨h.nodup,Zh,fun a f c o=>by simp at o;subst o;exact fun e=>z (e▸f)⟩
 have y:(AY (ks++[s])).Perm (ks.insertIdx i s):=
  (DG _).trans ((List.perm_append_comm (l₁:=ks) (l₂:=[s])).trans (Lh ks i hi s).symm)
 have A:AY (ks++[s])=ks.insertIdx i s:=by
  refine DU (fun s=>s) y (Cs (fun s=>s) _) ?_ fun _ _ _ _ h=>h
  rw[AQ ks i hi,List.pairwise_append,List.pairwise_cons];have g:=h.rise;rw[<-List.take_append_drop i ks,List.pairwise_append]at g;refine⟨g.1.imp fun{a b} h=>(DW (fun s=>s)).2 Zj,⟨fun a f=> ?_,g.2.1.imp fun{a b} h=>(DW (fun s=>s)).2 Zj⟩,fun a f b j=> ?_⟩
  .obtain⟨t,d⟩:=List.mem_iff_getElem?.1 f
   rw[List.getElem?_drop]at d;refine(DW (fun s=>s)).2 ?_;rw[Utf.Ej a s];have:=q _ a Zj d;omega
  .have B:Utf.BK a s<0:=by
    obtain⟨t,d⟩:=List.mem_iff_getElem?.1 f;rw[List.getElem?_take]at d;split at d
    .exact p t a (by assumption) d
    .cases d
   refine(DW (fun s=>s)).2 ?_
   rcases Qh.1 j with rfl|j
   .omega
   .exact Int.le_of_lt (g.2.2 a f b j)
 have n:=On (ks:=ks++[s]) (l:=l++[x]) w (by simp[m]);rw[List.map_append]at n;have r:(ks.map fun k=>(l++[x]).getD (A5 (ks++[s]) k) .null)=l:=(List.append_inj n (by simp[m])).1;have u:([s].map fun k=>(l++[x]).getD (A5 (ks++[s]) k) .null)=[x]:=(List.append_inj n (by simp[m])).2;unfold Tree.D1 LA;rw[A]
 congr 1
 rw[AQ ks i hi,AQ l i Zj,List.map_append,List.map_cons];have v:(l++[x]).getD (A5 (ks++[s]) s) .null=x:=(List.cons.inj u).1;rw[List.map_take,List.map_drop,r,v]
theorem Av.items{t:Tr}(h:Av t):∀u∈Ab t,Av u:=by
 cases t with
 |list l=>exact Cu.1 h
 |obj ks l=>exact Cu.1 h.2.2
 |_=>intro u a;simp[Ab]at a
theorem Av.lead{ts:List BY}:∀{t u:Tr},Av t->Ah t ts=nM u->Av u:=by
 induction ts with
 |nil=>intro t u h a;simp only[Ah]at a;injection a with a;exact a▸h
 |cons s r d=>
  intro t u h a;obtain⟨i,v,e,b,c⟩:=CC a;exact d (h.items v (Qi b)) c
theorem Kk{l:List Tr}(h:KO l)(i:Nat){x:Tr}(b:Av x):KO (l.set i x):=by
 rw[Cu]at h|-;intro t a
 rcases List.mem_or_eq_of_mem_set a with a|rfl
 .exact h t a
 .exact b
theorem Av.withSet{t x:Tr}(h:Av t)(i:Nat)(a:Av x):Av (AW t ((Ab t).set i x)):=by
 cases t with
 |list l=>simp only[AW,Ab,Av]at h|-;exact Kk h i a
 |obj ks l=>simp only[AW,Ab,Av]at h|-;exact⟨h.1,by rw[List.length_set];exact h.2.1,Kk h.2.2 i a⟩
 |_=>exact h
theorem Av.mod{f:Tr->Tr}{ts:List BY}:∀{t u:Tr},Av t->Ah t ts=nM u->Av (f u)->Av (Bz f t ts):=by
 induction ts with
 |nil=>intro t u h a b;simp only[Ah]at a;injection a with a;subst a;exact b
 |cons s r g=>
  intro t u h a b;obtain⟨i,v,d,c,e⟩:=CC a;rw[BF d c];exact h.withSet i (g (h.items v (Qi c)) e b)
theorem Cy.erase{ks:List BY}(h:Cy ks)(i:Nat):Cy (ks.eraseIdx i):=by
 have a:=List.eraseIdx_sublist ks i;exact⟨fun s b=>h.right s (a.subset b),fun s b=>h.small s (a.subset b),h.rise.sublist a,Q7 a.length_le h.many⟩
theorem Av.cut{s:BY}{p:Tr}(h:Av p):Av (CT s p):=by
 unfold CT
 cases b:D6 p s with
 |none=>exact h
 |some i=>
  cases p with
  |list l=>
   simp only[Av]at h|-;rw[Cu]at h|-;exact fun t a=>h t ((List.eraseIdx_sublist l i).subset a)
  |obj ks l=>
   simp only[Av]at h|-;refine⟨h.1.erase i, ?_, ?_⟩
   .rw[List.length_eraseIdx,List.length_eraseIdx,h.2.1]
   .have:=Cu.1 h.2.2
    exact Cu.2 fun t a=>this t ((List.eraseIdx_sublist l i).subset a)
  |_=>exact h
theorem Av.add{s:BY}{p x:Tr}(h:Av p)(f:Av x)(r:Utf.Al s=true)(v:s.size<=2147483648)(q:(Ab p).length<65536):Av (Cj s x p):=by
 cases p with
 |list l=>
  simp only[Cj];have j:∀u∈l,Av u:=Cu.1 h
  split
  .simp only[Av]
   exact Cu.2 fun t b=>by
    rcases Qf.1 b with b|b
    .exact j t b
    .simp at b;subst b;exact f
  .split
   .rename_i i hi
    simp only[Av]
    exact Cu.2 fun t b=>by
     rcases Qh.1 ((Lh l i (by have:=Jf hi;omega) x).mem_iff.1 b)with rfl|b
     .exact f
     .exact j t b
   .exact h
 |obj ks l=>
  simp only[Cj];simp only[Av]at h;split
  .simp only[Av]
   exact⟨h.1,by rw[List.length_set];exact h.2.1,Kk h.2.2 _ f⟩
  .rename_i d
   have d:=Ys d
   have m:(ks++[s]).Nodup:=by
    rw[List.nodup_append];exact⟨h.1.nodup,Zh,fun a n c g=>by simp at g;subst g;exact fun e=>d (e▸n)⟩
   have o:(ks++[s]).length=(l++[x]).length:=by simp[h.2.1]
   unfold Tree.D1;simp only[Av];refine⟨KY ?_ ?_ ?_ m,by rw[A3,DD],Cu.2 fun t b=> ?_⟩
   .intro k d;rcases Qf.1 d with d|d
    .exact h.1.right k d
    .simp at d;subst d;exact r
   .intro k d;rcases Qf.1 d with d|d
    .exact h.1.small k d
    .simp at d;subst d;exact v
   .simp only[Ab]at q;simp;omega
   .have b:=(Ku m o).mem_iff.1 b
    rcases Qf.1 b with b|b
    .exact Cu.1 h.2.2 t b
    .simp at b;subst b;exact f
 |_=>simp only[Cj];exact h
def AG:Tr->Vl
 | .null=> nF 271 (nA #[])
 | .flag b=> nF 272 (.bool b)
 | .num n=> nF 273 (.float .f64 n)
 | .text s=> nF 179 (nG s)
 |_=> .nilIface
mutual
def AP (w:Wl):Tr->Vl->List Nat->Prop
 | .list l,v,bs=>∃b sv vs fs,v= nF 104 (nP (nM ⟨b,0,nN⟩))/\Ac w b [sv] 107/\AK w sv 95 vs/\PsAt w l vs fs/\bs=b::(sv.ownBlock.toList++fs)
 | .obj ks l,v,bs=>∃b sv sk vs fs,v= nF 175 (nP (nM ⟨b,0,nN⟩))/\Ac w b [sv,sk] 177/\AK w sv 95 vs/\AK w sk 9 (Ad ks)/\ks.length=l.length/\PsAt w l vs fs/\
  bs=b::(sv.ownBlock.toList++(sk.ownBlock.toList++fs))
 | .null,v,bs=>v= nF 183 (nA #[AG .null])/\bs=[]
 | .flag b,v,bs=>v= nF 183 (nA #[AG (.flag b)])/\bs=[]
 | .num n,v,bs=>v= nF 183 (nA #[AG (.num n)])/\bs=[]
 | .text s,v,bs=>v= nF 183 (nA #[AG (.text s)])/\bs=[]
def PsAt (w:Wl):List Tr->List Vl->List Nat->Prop
 |[],vs,bs=>vs=[]/\bs=[]
 |t::l,vs,bs=>∃v r b1 b2,vs=v::r/\AP w t v b1/\PsAt w l r b2/\bs=b1++b2
end
def Ca(bs:List Nat)(w w':Wl):Prop:=∀b,b∈bs->w'.heap[b]? =w.heap[b]?
theorem Ca.mono{cs bs:List Nat}{w w':Wl}(h:Ca bs w w')(c:∀b,b∈cs->b∈bs):Ca cs w w':=fun b a=>h b (c b a)
theorem Ca.left{cs bs:List Nat}{w w':Wl}(h:Ca (cs++bs) w w'):Ca cs w w':=h.mono fun b a=>Qe _ a
theorem Ca.right{cs bs:List Nat}{w w':Wl}(h:Ca (cs++bs) w w'):Ca bs w w':=h.mono fun b a=>Qd _ a
theorem Ca.perm{cs bs:List Nat}{w w':Wl}(h:Ca bs w w')(c:cs.Perm bs):Ca cs w w':=h.mono fun b a=>c.mem_iff.1 a
theorem Ac.same{w w':Wl}{b:Nat}{cs:List Vl}{T:Ti}(h:Ac w b cs T)(e:w'.heap[b]? =w.heap[b]?):Ac w' b cs T:=e.trans h
theorem AK.same{w w':Wl}{sv:Vl}{e:Ti}{xs:List Vl}(h:AK w sv e xs)(i:Ca sv.ownBlock.toList w w'):AK w' sv e xs:=by
 obtain⟨f,a⟩:=h;refine⟨f, ?_⟩
 rcases a with a|⟨g,c,d,b,j,k,r⟩
 .exact .inl a
 .refine .inr ⟨g,c,d,b,j, ?_,r⟩
  rw[i g (by subst b;simp[Vl.ownBlock])];exact k
theorem AK.ltB{w:Wl}{sv:Vl}{e:Ti}{xs:List Vl}(h:AK w sv e xs):∀b,b∈sv.ownBlock.toList->b<w.heap.size:=fun b a=>h.lt (by simpa using a)
mutual
theorem AP.same {w w':Wl}:∀(t:Tr) (v:Vl) (bs:List Nat),Ca bs w w'->AP w t v bs->AP w' t v bs
 | .list l,v,bs,hs,h=>by
  simp only[AP]at h|-;obtain⟨b,sv,vs,fs,h1,h2,h3,h4,rfl⟩:=h;exact⟨b,sv,vs,fs,h1,h2.same (hs b Zh),h3.same (hs.mono fun c hc=>by simp at hc|-;exact .inr (.inl hc)),PsAt.same l vs fs (hs.mono fun c hc=>by simp;exact .inr (.inr hc)) h4,rfl⟩
 | .obj ks l,v,bs,hs,h=>by
  simp only[AP]at h|-;obtain⟨b,sv,sk,vs,fs,h1,h2,h3,h5,h6,h4,rfl⟩:=h
  exact⟨b,sv,sk,vs,fs,h1,h2.same (hs b Zh),h3.same (hs.mono fun c hc=>by simp at hc|-;exact .inr (.inl hc)),h5.same (hs.mono fun c hc=>by simp at hc|-;exact .inr (.inr (.inl hc))),h6,
   PsAt.same l vs fs (hs.mono fun c hc=>by simp;exact .inr (.inr (.inr hc))) h4,rfl⟩
 | .null,v,bs,_,h=>by simp only[AP]at h|-;exact h
 | .flag _,v,bs,_,h=>by simp only[AP]at h|-;exact h
 | .num _,v,bs,_,h=>by simp only[AP]at h|-;exact h
 | .text _,v,bs,_,h=>by simp only[AP]at h|-;exact h
theorem PsAt.same {w w':Wl}:∀(l:List Tr) (vs:List Vl) (bs:List Nat),Ca bs w w'->PsAt w l vs bs->PsAt w' l vs bs
 |[],vs,bs,_,h=>by simp only[PsAt]at h|-;exact h
 |t::l,vs,bs,hs,h=>by
  simp only[PsAt]at h|-;obtain⟨v,r,b1,b2,h1,h2,h3,rfl⟩:=h;exact⟨v,r,b1,b2,h1,AP.same t v b1 hs.left h2,PsAt.same l r b2 hs.right h3,rfl⟩
end
mutual
theorem AP.lt {w:Wl}:∀(t:Tr) (v:Vl) (bs:List Nat),AP w t v bs->∀b,b∈bs->b<w.heap.size
 | .list l,v,bs,h=>by
  simp only[AP]at h;obtain⟨b,sv,vs,fs,h1,h2,h3,h4,rfl⟩:=h;intro c hc
  rcases Qh.1 hc with rfl|hc
  .exact h2.lt
  .rcases Qf.1 hc with hc|hc
   .exact h3.ltB c hc
   .exact PsAt.lt l vs fs h4 c hc
 | .obj ks l,v,bs,h=>by
  simp only[AP]at h;obtain⟨b,sv,sk,vs,fs,h1,h2,h3,h5,h6,h4,rfl⟩:=h;intro c hc
  rcases Qh.1 hc with rfl|hc
  .exact h2.lt
  .rcases Qf.1 hc with hc|hc
   .exact h3.ltB c hc
   .rcases Qf.1 hc with hc|hc
    .exact h5.ltB c hc
    .exact PsAt.lt l vs fs h4 c hc
 | .null,v,bs,h=>by simp only[AP]at h;obtain⟨_,rfl⟩:=h;intro c hc;cases hc
 | .flag _,v,bs,h=>by simp only[AP]at h;obtain⟨_,rfl⟩:=h;intro c hc;cases hc
 | .num _,v,bs,h=>by simp only[AP]at h;obtain⟨_,rfl⟩:=h;intro c hc;cases hc
 | .text _,v,bs,h=>by simp only[AP]at h;obtain⟨_,rfl⟩:=h;intro c hc;cases hc
theorem PsAt.lt {w:Wl}:∀(l:List Tr) (vs:List Vl) (bs:List Nat),PsAt w l vs bs->∀b,b∈bs->b<w.heap.size
 |[],vs,bs,h=>by simp only[PsAt]at h;obtain⟨_,rfl⟩:=h;intro c hc;cases hc
 |t::l,vs,bs,h=>by
  simp only[PsAt]at h;obtain⟨v,r,b1,b2,h1,h2,h3,rfl⟩:=h;intro c hc
  rcases Qf.1 hc with hc|hc
  .exact AP.lt t v b1 h2 c hc
  .exact PsAt.lt l r b2 h3 c hc
end
theorem AP.chg{w w':Wl}{t:Tr}{v:Vl}{bs cs:List Nat}(h:AP w t v bs)(c:Chg w w' cs)(d:∀b,b∈cs->b∉bs):AP w' t v bs:=
 AP.same t v bs (fun b a=>c.block b (AP.lt t v bs h b a) fun e=>d b e a) h
theorem PsAt.chg{w w':Wl}{l:List Tr}{vs:List Vl}{bs cs:List Nat}(h:PsAt w l vs bs)(c:Chg w w' cs)(d:∀b,b∈cs->b∉bs):PsAt w' l vs bs:=
 PsAt.same l vs bs (fun b a=>c.block b (PsAt.lt l vs bs h b a) fun e=>d b e a) h
theorem PsAt.length{w:Wl}:∀{l:List Tr} {vs:List Vl} {bs:List Nat},PsAt w l vs bs->vs.length=l.length
 |[],_,_,h=>by simp only[PsAt]at h;obtain⟨rfl,_⟩:=h;rfl
 |t::l,_,_,h=>by
  simp only[PsAt]at h;obtain⟨v,r,b,c,rfl,_,a,_⟩:=h;have:=a.length;simp[this]
theorem AP.iface{w:Wl}{t:Tr}{v:Vl}{bs:List Nat}(h:AP w t v bs):∃a x,v= nF a x:=by
 cases t<;>simp only[AP]at h
 case list=>obtain⟨_,_,_,_,rfl,_⟩:=h;exact⟨_,_,rfl⟩
 case obj=>obtain⟨_,_,_,_,_,rfl,_⟩:=h;exact⟨_,_,rfl⟩
 all_goals(obtain⟨rfl,_⟩:=h;exact⟨_,_,rfl⟩)
theorem PsAt.one{w:Wl}:∀{l:List Tr} {vs:List Vl} {bs:List Nat},PsAt w l vs bs->∀u∈vs,u.oneCell'=true
 |[],_,_,h,u,a=>by simp only[PsAt]at h;obtain⟨rfl,_⟩:=h;cases a
 |t::l,_,_,h,u,a=>by
  simp only[PsAt]at h;obtain⟨v,r,d,e,rfl,b,c,_⟩:=h
  rcases Qh.1 a with rfl|a
  .obtain⟨f,x,rfl⟩:=b.iface;rfl
  .exact c.one u a
theorem PsAt.append{w:Wl}:∀{l m:List Tr} {vs us:List Vl} {bs cs:List Nat},PsAt w l vs bs->PsAt w m us cs->PsAt w (l++m) (vs++us) (bs++cs)
 |[],_,_,_,_,_,h,k=>by simp only[PsAt]at h;obtain⟨rfl,rfl⟩:=h;exact k
 |t::l,_,_,_,_,_,h,k=>by
  simp only[PsAt,Qo]at h|-;obtain⟨v,r,a,b,rfl,c,d,rfl⟩:=h;exact⟨v,r++_,a,b++_,rfl,c,d.append k,by rw[List.append_assoc]⟩
theorem PsAt.cons{w:Wl}{t:Tr}{l:List Tr}{v:Vl}{vs:List Vl}{bs cs:List Nat}(h:AP w t v bs)(k:PsAt w l vs cs):PsAt w (t::l) (v::vs) (bs++cs):=by
 simp only[PsAt];exact⟨v,vs,bs,cs,rfl,h,k,rfl⟩
theorem PsAt.split{w:Wl}:∀{l m:List Tr} {vs:List Vl} {bs:List Nat},PsAt w (l++m) vs bs->∃a b,PsAt w l (vs.take l.length) a/\PsAt w m (vs.drop l.length) b/\bs=a++b
 |[],m,vs,bs,h=>⟨[],bs,by simp[PsAt],by simpa using h,rfl⟩
 |t::l,m,vs,bs,h=>by
  simp only[PsAt,Qo]at h;obtain⟨v,r,c,j,rfl,e,f,rfl⟩:=h;obtain⟨c1,d,g,i,rfl⟩:=f.split;exact⟨c++c1,d,by simpa using PsAt.cons e g,by simpa using i,by rw[List.append_assoc]⟩
theorem PsAt.mid{w:Wl}{l:List Tr}{vs:List Vl}{bs:List Nat}{i:Nat}{u:Tr}(h:PsAt w l vs bs)(g:l[i]? =nM u):
  ∃v a b c,vs[i]? =nM v/\AP w u v b/\PsAt w (l.take i) (vs.take i) a/\PsAt w (l.drop (i+1)) (vs.drop (i+1)) c/\bs=a++(b++c):=by
 obtain⟨hi,_⟩:=Qc.1 g;obtain⟨e,_⟩:=CZ g u;have q:=h.length;rw[e]at h;obtain⟨a,c,f,d,rfl⟩:=h.split;have n:(l.take i).length=i:=by rw[Ql];omega
 rw[n]at f d;simp only[PsAt]at d;obtain⟨v,r,b,k,j,o,p,rfl⟩:=d;have m:vs.drop (i+1)=r:=by rw[<-List.drop_drop,j];rfl
 refine⟨v,a,b,k, ?_,o,f,m▸p,rfl⟩;rw[<-List.head?_drop,j];rfl
def Dv(w:Wl):Tr->Vl->List BY->Vl->Prop
 |_,v,[],a=>a=v
 |t,v,s::r,a=>∃i u b g n c d e,D6 t s=nM i/\(Ab t)[i]? =nM u/\v= nF e (nP (nM ⟨b,0,nN⟩))/\w.cell? ⟨b,0,nN⟩=nM (nS (nM ⟨g,0,nN⟩) n c)/\w.cell? ⟨g,i,nN⟩=nM d/\Dv w u d r a
theorem Dv.inj{w:Wl}:∀{ts:List BY} {t:Tr} {v a b:Vl},Dv w t v ts a->Dv w t v ts b->a=b
 |[],_,_,_,_,h,k=>by simp only[Dv]at h k;rw[h,k]
 |s::r,_,_,_,_,h,k=>by
  simp only[Dv]at h k;obtain⟨i,u,b,g,n,c,J,G,m,o,p,q,x,y⟩:=h;obtain⟨D,I,A,C,F,B,K,H,f,j,d,e,l,z⟩:=k
  rw[m]at f;injection f with f;subst f
  rw[o]at j;injection j with j;subst j
  rw[p]at d;injection d with E d;injection d with d;injection d with d;injection d with d;subst d
  rw[q]at e;injection e with e;injection e with e;injection e with e;injection e with e;subst e
  rw[x]at l;injection l with l;subst l
  exact y.inj z
theorem Dv.snoc{w:Wl}:∀{ts:List BY} {t u:Tr} {v e x:Vl} {s:BY},Ah t ts=nM u->Dv w t v ts e->Dv w u e [s] x->Dv w t v (ts++[s]) x
 |[],t,u,v,e,x,s,d,h,k=>by
  simp only[Ah]at d;injection d with d;subst d
  have h:e=v:=by simpa only[Dv]using h
  subst h;exact k
 |a::r,t,u,v,e,x,s,d,h,k=>by
  obtain⟨E,z,f,j,A⟩:=CC d;simp only[Dv,Qo]at h|-;obtain⟨i,C,b,g,n,c,D,B,l,m,o,p,q,y⟩:=h
  rw[l]at f;injection f with f;subst f
  rw[m]at j;injection j with j;subst j
  exact⟨i,C,b,g,n,c,D,B,l,m,o,p,q,y.snoc A k⟩
structure Ir(w:Wl)(t:Tr)(v:Vl)(bs:List Nat)(ts:List BY)(u:Tr)(vu:Vl)(bu rest:List Nat):Prop where
 lead:Ah t ts=nM u
 reach:Dv w t v ts vu
 at_:AP w u vu bu
 perm:bs.Perm (bu++rest)
 back:∀(f:Tr->Tr) (w':Wl) (bu':List Nat),AP w' (f u) vu bu'->Ca rest w w'->∃bs',AP w' (Bz f t ts) v bs'/\bs'.Perm (bu'++rest)
theorem Ir.here{w:Wl}{t:Tr}{v:Vl}{bs:List Nat}(h:AP w t v bs):Ir w t v bs [] t v bs []:=
 ⟨rfl,rfl,h,Zh,fun f w' a b _=>⟨a,by simpa[Bz]using b,Zh⟩⟩
theorem Ir.snoc{w:Wl}{t u x:Tr}{v j l:Vl}{bs c d b i:List Nat}{ts:List BY}{s:BY}(h:Ir w t v bs ts u j c b)(k:Ir w u j c [s] x l d i):
  Ir w t v bs (ts++[s]) x l d (i++b):=by
 refine⟨?_,h.reach.snoc h.lead k.reach,k.at_, ?_, ?_⟩
 .have a:=k.lead
  simp only[Ah]at a;rw[BW,h.lead];simp only[Option.bind_some]
  cases e:Dy u s with
  |none=>rw[e]at a;cases a
  |some y=>rw[e]at a;simpa using a
 .rw[<-List.append_assoc];exact h.perm.trans (k.perm.append_right b)
 .intro f w' o A g
  obtain⟨m,p,q⟩:=k.back f w' o A g.left;obtain⟨n,r,z⟩:=h.back (fun u=>Bz f u [s]) w' m p g.right;refine⟨n,by rw[Gh];exact r,z.trans ?_⟩;rw[<-List.append_assoc];exact q.append_right b
theorem Fx{w:Wl}{t u:Tr}{v:Vl}{bs:List Nat}{s:BY}{i:Nat}(h:AP w t v bs)(C:D6 t s=nM i)(p:(Ab t)[i]? =nM u):
  ∃b g n c m o rest R,v= nF R (nP (nM ⟨b,0,nN⟩))/\w.cell? ⟨b,0,nN⟩=nM (nS (nM ⟨g,0,nN⟩) n c)/\w.cell? ⟨g,i,nN⟩=nM m/\Ir w t v bs [s] u m o rest:=by
 have M:Ah t [s]=nM u:=by simp[Ah,Dy,C,p]
 have N:∀f,Bz f t [s]=AW t ((Ab t).set i (f u)):=fun f=>by rw[BF C p];rfl
 cases t with
 |list l=>
  simp only[AP]at h;simp only[Ab]at p;obtain⟨b,sv,vs,O,rfl,z,y,D,rfl⟩:=h;obtain⟨m,d,o,j,x,H,I,J,rfl⟩:=D.mid p;obtain⟨a,c,rfl,F⟩:=y.form;obtain⟨g,rfl⟩:=F (by intro e;subst e;simp at x);have A:w.cell? ⟨b,0,nN⟩=nM (nS (nM ⟨g,0,nN⟩) vs.length c):=z.cell 0;have B:=y.cell rfl i m x;refine⟨b,g,_,c,m,o,b::g::(d++j),_,rfl,A,B,M,⟨i,u,b,g,_,c,m,_,C,p,rfl,A,B,rfl⟩,H, ?_, ?_⟩
  .have:(b::((Vl.slice (nM ⟨g,0,nN⟩) vs.length c).ownBlock.toList++(d++(o++j)))).Perm (o++(b::g::(d++j))):=by
    simp only[Vl.ownBlock,Option.toList_some,Qo,List.nil_append];refine List.Perm.trans ?_ (List.perm_append_comm (l₁:=b::g::(d++j)) (l₂:=o));simp only[Qo,List.append_assoc];exact((List.perm_append_comm (l₁:=o) (l₂:=j)).append_left d).cons g|>.cons b
   exact this
  .intro f w' r E q
   rw[N f];have hi:=(Qc.1 p).1;have S:=(Qc.1 x).1;refine⟨b::g::(d++(r++j)), ?_, ?_⟩
   .simp only[AW,Ab,AP]
    refine⟨b,_,vs,d++(r++j),rfl,z.same (q b Zh),y.same (q.mono fun c k=>by simp[Vl.ownBlock]at k;subst k;simp), ?_,rfl⟩;rw[(CZ p (f u)).2];have G:vs=vs.take i++m::vs.drop (i+1):=(CZ x m).1;rw[G];have K:=PsAt.same _ _ _ (q.mono fun c k=>by simp;exact .inr (.inr (.inl k))) I;have L:=PsAt.same _ _ _ (q.mono fun c k=>by simp;exact .inr (.inr (.inr k))) J;exact K.append (PsAt.cons E L)
   .refine List.Perm.trans ?_ (List.perm_append_comm (l₁:=b::g::(d++j)) (l₂:=r))
    simp only[Qo,List.append_assoc];exact((List.perm_append_comm (l₁:=r) (l₂:=j)).append_left d).cons g|>.cons b
 |obj ks l=>
  simp only[AP]at h;simp only[Ab]at p;obtain⟨b,sv,sk,vs,O,rfl,z,y,P,Q,D,rfl⟩:=h;obtain⟨m,d,o,j,x,H,I,J,rfl⟩:=D.mid p;obtain⟨a,c,rfl,F⟩:=y.form;obtain⟨g,rfl⟩:=F (by intro e;subst e;simp at x);have A:w.cell? ⟨b,0,nN⟩=nM (nS (nM ⟨g,0,nN⟩) vs.length c):=z.cell 0;have B:=y.cell rfl i m x;refine⟨b,g,_,c,m,o,b::g::(sk.ownBlock.toList++(d++j)),_,rfl,A,B,M,⟨i,u,b,g,_,c,m,_,C,p,rfl,A,B,rfl⟩,H, ?_, ?_⟩
  .have:(b::((Vl.slice (nM ⟨g,0,nN⟩) vs.length c).ownBlock.toList++(sk.ownBlock.toList++(d++(o++j))))).Perm (o++(b::g::(sk.ownBlock.toList++(d++j)))):=by
    simp only[Vl.ownBlock,Option.toList_some,Qo,List.nil_append];refine List.Perm.trans ?_ (List.perm_append_comm (l₁:=b::g::(sk.ownBlock.toList++(d++j))) (l₂:=o));simp only[Qo,List.append_assoc];exact(((List.perm_append_comm (l₁:=o) (l₂:=j)).append_left d).append_left _).cons g|>.cons b
   exact this
  .intro f w' r E q
   rw[N f];refine⟨b::g::(sk.ownBlock.toList++(d++(r++j))), ?_, ?_⟩
   .simp only[AW,Ab,AP]
    refine⟨b,_,sk,vs,d++(r++j),rfl,z.same (q b Zh),y.same (q.mono fun c k=>by simp[Vl.ownBlock]at k;subst k;simp),
     P.same (q.mono fun c k=>by simp only[Qh,Qf];exact .inr (.inr (.inl k))),by rw[List.length_set];exact Q, ?_,rfl⟩
    rw[(CZ p (f u)).2];have G:vs=vs.take i++m::vs.drop (i+1):=(CZ x m).1;rw[G];have K:=PsAt.same _ _ _ (q.mono fun c k=>by simp only[Qh,Qf];exact .inr (.inr (.inr (.inl k)))) I;have L:=PsAt.same _ _ _ (q.mono fun c k=>by simp only[Qh,Qf];exact .inr (.inr (.inr (.inr k)))) J;exact K.append (PsAt.cons E L)
   .refine List.Perm.trans ?_ (List.perm_append_comm (l₁:=b::g::(sk.ownBlock.toList++(d++j))) (l₂:=r))
    simp only[Qo,List.append_assoc];exact(((List.perm_append_comm (l₁:=r) (l₂:=j)).append_left d).append_left _).cons g|>.cons b
 |_=>simp[D6]at C
theorem Ew{d:Type}(a b c:List d):(a++(b++c)).Perm (b++(a++c)):=by
 rw[<-List.append_assoc,<-List.append_assoc];exact List.perm_append_comm.append_right c
theorem PsAt.erase{w:Wl}{l:List Tr}{vs:List Vl}{bs:List Nat}{i:Nat}{u:Tr}(h:PsAt w l vs bs)(j:l[i]? =nM u):
  ∃v a rest,vs[i]? =nM v/\AP w u v a/\PsAt w (l.eraseIdx i) (vs.eraseIdx i) rest/\bs.Perm (a++rest):=by
 obtain⟨v,b,a,c,d,e,f,g,rfl⟩:=h.mid j;refine⟨v,a,b++c,d,e, ?_,Ew b a c⟩;rw[C6,C6];exact f.append g
theorem PsAt.set{w:Wl}{l:List Tr}{vs:List Vl}{bs d:List Nat}{i:Nat}{u x:Tr}{e:Vl}(h:PsAt w l vs bs)(j:l[i]? =nM u)(o:AP w x e d):
  ∃v a rest f,vs[i]? =nM v/\AP w u v a/\bs.Perm (a++rest)/\PsAt w (l.set i x) (vs.set i e) f/\f.Perm (d++rest):=by
 obtain⟨v,b,a,c,g,k,m,n,rfl⟩:=h.mid j;refine⟨v,a,b++c,b++(d++c),g,k,Ew b a c, ?_,Ew b d c⟩;rw[(CZ j x).2,(CZ g e).2];exact m.append (PsAt.cons o n)
theorem PsAt.insert{w:Wl}{l:List Tr}{vs:List Vl}{bs a:List Nat}{i:Nat}{x:Tr}{j:Vl}(h:PsAt w l vs bs)(hi:i<=l.length)(m:AP w x j a):
  ∃d,PsAt w (l.insertIdx i x) (vs.insertIdx i j) d/\d.Perm (a++bs):=by
 have n:=h.length;have e:=List.take_append_drop i l;rw[<-e]at h;obtain⟨b,c,f,g,rfl⟩:=h.split;have k:(l.take i).length=i:=by rw[Ql];omega
 rw[k]at f g;refine⟨b++(a++c), ?_,Ew b a c⟩;rw[AQ l i hi,AQ vs i Zj];exact f.append (PsAt.cons m g)
def Kp:List BY->List Vl->List Vl
 |k::ks,v::vs=> nG k::v::Kp ks vs
 |_,_=>[]
theorem K0:∀{ks:List BY} {vs:List Vl},ks.length=vs.length->(Kp ks vs).length=2*ks.length
 |[],[],_=>rfl
 |k::ks,v::vs,h=>by simp[Kp,K0 (ks:=ks) (vs:=vs) (by simpa using h)];omega
 |[],_::_,h=>by simp at h
 |_::_,[],h=>by simp at h
theorem Mi:∀{ks:List BY} {vs:List Vl} {i:Nat} {k:BY} {v:Vl},ks[i]? =nM k->vs[i]? =nM v->(Kp ks vs)[2*i]? =nM (nG k)/\(Kp ks vs)[2*i+1]? =nM v
 |a::ks,b::vs,0,k,v,c,d=>by simp at c d;subst c;subst d;exact⟨rfl,rfl⟩
 |a::ks,b::vs,i+1,k,v,c,d=>by
  have:=Mi (ks:=ks) (vs:=vs) (i:=i) (by simpa using c) (by simpa using d);rw[show 2*(i+1)=2*i+1+1 from by omega];exact this
 |[],_,i,k,v,c,_=>by simp at c
 |_::_,[],i,k,v,_,d=>by simp at d
theorem Oj:∀{ks:List BY} {vs:List Vl} {k:BY} {v:Vl},ks.length=vs.length->Kp (ks++[k]) (vs++[v])=Kp ks vs++[nG k,v]
 |[],[],_,_,_=>rfl
 |a::ks,b::vs,k,v,h=>by simp[Kp,Oj (ks:=ks) (vs:=vs) (k:=k) (v:=v) (by simpa using h)]
 |[],_::_,_,_,h=>by simp at h
 |_::_,[],_,_,h=>by simp at h
mutual
def Hm (w:Wl) (F:Nat->Prop):Tr->Vl->Prop
 | .list l,v=>∃sl vs,v= nF 141 sl/\Ax w F sl vs/\Dc w F l vs
 | .obj ks l,v=>∃la c vs,v= nF 149 (nS la l.length c)/\ks.length=l.length/\LP w F la (Kp ks vs)/\Dc w F l vs
 | .null,v=>v=AG .null
 | .flag b,v=>v=AG (.flag b)
 | .num n,v=>v=AG (.num n)
 | .text s,v=>v=AG (.text s)
def Dc (w:Wl) (F:Nat->Prop):List Tr->List Vl->Prop
 |[],vs=>vs=[]
 |t::l,vs=>∃v r,vs=v::r/\Hm w F t v/\Dc w F l r
end
mutual
theorem Hm.kept {w w':Wl} {F G:Nat->Prop} (hk:BZ F w w') (hF:∀b,F b->G b):∀(t:Tr) (v:Vl),Hm w F t v->Hm w' G t v
 | .list l,v,h=>by
  simp only[Hm]at h|-;obtain⟨sl,vs,h1,h2,h3⟩:=h;exact⟨sl,vs,h1,h2.kept hk hF,Dc.kept hk hF l vs h3⟩
 | .obj ks l,v,h=>by
  simp only[Hm]at h|-;obtain⟨la,c,vs,h1,h0,h2,h3⟩:=h;exact⟨la,c,vs,h1,h0,h2.kept hk hF,Dc.kept hk hF l vs h3⟩
 | .null,_,h=>by simp only[Hm]at h|-;exact h
 | .flag _,_,h=>by simp only[Hm]at h|-;exact h
 | .num _,_,h=>by simp only[Hm]at h|-;exact h
 | .text _,_,h=>by simp only[Hm]at h|-;exact h
theorem Dc.kept {w w':Wl} {F G:Nat->Prop} (hk:BZ F w w') (hF:∀b,F b->G b):∀(l:List Tr) (vs:List Vl),Dc w F l vs->Dc w' G l vs
 |[],_,h=>by simp only[Dc]at h|-;exact h
 |t::l,vs,h=>by
  simp only[Dc]at h|-;obtain⟨v,r,h1,h2,h3⟩:=h;exact⟨v,r,h1,Hm.kept hk hF t v h2,Dc.kept hk hF l r h3⟩
end
theorem Dc.length{w:Wl}{F:Nat->Prop}:∀{l:List Tr} {vs:List Vl},Dc w F l vs->vs.length=l.length
 |[],_,h=>by simp only[Dc]at h;subst h;rfl
 |t::l,_,h=>by
  simp only[Dc]at h;obtain⟨v,r,rfl,_,a⟩:=h;simp[a.length]
theorem Dc.get{w:Wl}{F:Nat->Prop}:∀{l:List Tr} {vs:List Vl},Dc w F l vs->∀(i:Nat) (t:Tr),l[i]? =nM t->∃v,vs[i]? =nM v/\Hm w F t v
 |[],_,_,i,t,hi=>by simp at hi
 |u::l,vs,h,i,t,hi=>by
  simp only[Dc]at h;obtain⟨v,r,rfl,c,d⟩:=h
  cases i with
  |zero=>simp at hi;subst hi;exact⟨v,rfl,c⟩
  |succ i=>simp at hi;obtain⟨e,a,b⟩:=d.get i t hi;exact⟨e,by simpa using a,b⟩
theorem Dc.snoc{w:Wl}{F:Nat->Prop}:∀{l:List Tr} {vs:List Vl} {t:Tr} {v:Vl},Dc w F l vs->Hm w F t v->Dc w F (l++[t]) (vs++[v])
 |[],_,t,v,h,k=>by simp only[Dc]at h;subst h;exact⟨v,[],rfl,k,rfl⟩
 |u::l,_,t,v,h,k=>by
  simp only[Dc]at h;obtain⟨a,r,rfl,b,c⟩:=h;exact⟨a,r++[v],rfl,b,c.snoc k⟩
theorem PsAt.snoc{w:Wl}{l:List Tr}{vs:List Vl}{bs a:List Nat}{t:Tr}{v:Vl}(h:PsAt w l vs bs)(k:AP w t v a):PsAt w (l++[t]) (vs++[v]) (bs++a):=by
 have:PsAt w [t] [v] a:=⟨v,[],a,[],rfl,k,⟨rfl,rfl⟩,Zh⟩;exact h.append this
theorem PsAt.get{w:Wl}{l:List Tr}{vs:List Vl}{bs:List Nat}(h:PsAt w l vs bs){i:Nat}{u:Tr}(f:l[i]? =nM u):∃v a,vs[i]? =nM v/\AP w u v a/\∀b,b∈a->b∈bs:=by
 obtain⟨v,g,a,j,c,d,_,_,rfl⟩:=h.mid f;exact⟨v,a,c,d,fun b e=>by simp[e]⟩
theorem Hm.iface{w:Wl}{F:Nat->Prop}{t:Tr}{v:Vl}(h:Hm w F t v):∃a x,v= nF a x:=by
 cases t<;>simp only[Hm]at h
 case list=>obtain⟨_,_,rfl,_⟩:=h;exact⟨_,_,rfl⟩
 case obj=>obtain⟨_,_,_,rfl,_⟩:=h;exact⟨_,_,rfl⟩
 all_goals(subst h;exact⟨_,_,rfl⟩)
end
end Go.Proofs.YtkfnkppdhcaeoaaGreatDoor

/- Part 11 of the proof of backBase. -/
import Derived.Test.YtkfnkppdhcaeoaaGreatDoorM09
set_option maxRecDepth 100000
set_option maxHeartbeats 32000000
set_option linter.all false
namespace Go.Proofs.YtkfnkppdhcaeoaaGreatDoor
open Go renaming TypeId->Ti,Value->Vl,World->Wl
section
open Go Go.RowKit Tree Ptr
structure CW where
 kind:Nat
 path:BY
 frm:BY
 steps:List Aw
structure Bq where
 kind:Int
 path:BY
 frm:BY
 steps:List Ap
def IN:BY:=⟨#[45]⟩
def C4(ks:List BY)(s:BY):Bool:=ks.any fun k=>decide (k=s)
theorem Cp{ks:List BY}{s:BY}:C4 ks s=true↔s∈ks:=by
 unfold C4;simp
def D6:Tr->BY->Option Nat
 | .list l,s=>bL s l.length
 | .obj ks _,s=>if C4 ks s=true then some (A5 ks s)else none
 |_,_=>none
def Dy(t:Tr)(s:BY):Option Tr:=(D6 t s).bind fun i=>(Ab t)[i]?
def Ah:Tr->List BY->Option Tr
 |t,[]=>some t
 |t,s::r=>(Dy t s).bind fun u=>Ah u r
def AW:Tr->List Tr->Tr
 | .list _,m=> .list m
 | .obj ks _,m=> .obj ks m
 |t,_=>t
def Bz(f:Tr->Tr):Tr->List BY->Tr
 |t,[]=>f t
 |t,s::r=>match D6 t s with
  |some i=>match(Ab t)[i]? with
   |some u=>AW t ((Ab t).set i (Bz f u r))
   |none=>t
  |none=>t
def CT(s:BY)(t:Tr):Tr:=match D6 t s with
 |some i=>match t with
  | .list l=> .list (l.eraseIdx i)
  | .obj ks l=> .obj (ks.eraseIdx i) (l.eraseIdx i)
  |t=>t
 |none=>t
def Cj(s:BY)(x:Tr):Tr->Tr
 | .list l=>if s=IN then .list (l++[x])else match bL s (l.length+1)with
  |some i=> .list (l.insertIdx i x)
  |none=> .list l
 | .obj ks l=>if C4 ks s=true then .obj ks (l.set (A5 ks s) x)else D1 (ks++[s]) (l++[x])
 |t=>t
def AH(ts:List BY):BY:=ts.getLastD Dz
def At(t:Tr)(ts:List BY)(x:Tr):Tr:=if ts=[]then x else Bz (Cj (AH ts) x) t ts.dropLast
def AE(t:Tr)(ts:List BY)(x:Tr):Tr:=Bz (fun _=>x) t ts
def A8(t:Tr)(ts:List BY):Tr:=Bz (CT (AH ts)) t ts.dropLast
def Gg(s:BY):Tr->Nat
 | .obj _ _=>0
 | .list l=>if s=IN then 0 else match D5 s.data.toList with
  |none=>172
  |some k=>if k<l.length+1 then 0 else 4
 |_=>5
def EN(t:Tr)(ts:List BY):Nat:=if ts=[]then 0 else match Ah t ts.dropLast with
 |none=>4
 |some p=>Gg (AH ts) p
def Eo(s:BY):Tr->BY
 | .list l=>if s=IN then⟨(Go.Lib.decDigits l.length).toArray⟩else s
 |_=>s
def GF(a:List BY)(s:BY)(p:Tr):CW:=match p with
 | .obj ks l=>if C4 ks s=true then⟨3,A6 (a++[s]),Dz,Ai (l.getD (A5 ks s) .null)⟩else⟨2,A6 (a++[s]),Dz,[]⟩
 |p=>⟨2,A6 (a++[Eo s p]),Dz,[]⟩
def Dd(t:Tr)(ts:List BY):CW:=if ts=[]then⟨3,Dz,Dz,Ai t⟩else
 GF ts.dropLast (AH ts) ((Ah t ts.dropLast).getD .null)
def AS(l:List Ap):Option Tr:=if l.length<=65536 then CA l else none
def AO(k:Int):Bool:=decide (k=4)||decide (k=5)
def AN(k:Int):Bool:=decide (k=1)||decide (k=3)||decide (k=6)
def Bn(o:Bq):Nat:=
 if o.kind<1\/6<o.kind then 170
 else if AD o.path=none\/(AO o.kind=true/\AD o.frm=none)then 171
 else if AN o.kind=true/\(AS o.steps).isNone=true then 174 else 0
mutual
def BQ:Tr->Tr->Bool
 | .null,.null=>true
 | .flag a,.flag b=>a==b
 | .num a,.num b=>decide (a=b)
 | .text a,.text b=>decide (a=b)
 | .list a,.list b=>ER a b
 | .obj ks a,.obj ls b=>decide (ks=ls)&&ER a b
 |_,_=>false
def ER:List Tr->List Tr->Bool
 |[],[]=>true
 |a::l,b::m=>BQ a b&&ER l m
 |_,_=>false
end
inductive PV where
 |no (e:Nat)
 |yes (t:Tr) (undo:List CW)
def Kj(t:Tr)(a:List CW):PV:=if(Ag t).within=true then .yes t a else .no 3
def Ga(t:Tr)(ts:List BY)(x:Tr)(a:List CW):PV:=
 if EN t ts≠0 then .no (EN t ts)else Kj (At t ts x) (Dd t ts::a)
def EV(a b:BY):Bool:=(b.data.toList++[47]).isPrefixOf a.data.toList
def Da(t:Tr)(o:Bq)(a b:List BY)(x:Tr):PV:=
 if o.kind=1 then Ga t a x []
 else if o.kind=2 then(if a=[]then .no 176 else match Ah t a with
  |none=> .no 4
  |some u=> .yes (A8 t a) [⟨1,A6 a,Dz,Ai u⟩])
 else if o.kind=3 then(match Ah t a with
  |none=> .no 4
  |some u=>Kj (AE t a x) [⟨3,A6 a,Dz,Ai u⟩])
 else if o.kind=4 then(if EV o.path o.frm=true then .no 175 else match Ah t b with
  |none=> .no 4
  |some u=>if o.path=o.frm then .yes t []else Ga (A8 t b) a u [⟨1,A6 b,Dz,Ai u⟩])
 else if o.kind=5 then(match Ah t b with
  |none=> .no 4
  |some u=>Ga t a u [])
 else(match Ah t a with
  |none=> .no 4
  |some u=>if BQ u x=true then .yes t []else .no 173)
def Gz(t:Tr)(o:Bq):PV:=
 if Bn o≠0 then .no (Bn o)else Da t o ((AD o.path).getD []) ((AD o.frm).getD []) ((AS o.steps).getD .null)
inductive Zi where
 |no (e:Nat) (at_:Nat)
 |yes (t:Tr) (undo:List CW)
def BR:Tr->List CW->Nat->List Bq->Zi
 |t,u,_,[]=> .yes t u
 |t,u,i,o::l=>match Gz t o with
  | .no e=> .no e i
  | .yes a v=>BR a (v++u) (i+1) l
theorem Vu{t d:Tr}{u f v:List CW}{l:List Bq}{k i:Nat}{o:Bq}{s:Tr}(h:BR t u i (l.take k)= .yes d f)(b:l[k]? =some o)(m:Gz d o= .yes s v):
  BR t u i (l.take (k+1))= .yes s (v++f):=by
 induction l generalizing t u i k with
 |nil=>simp at b
 |cons a l n=>
  cases k with
  |zero=>
   simp only[List.take_zero,BR]at h
   injection h with g j
   simp at b;subst g;subst j;subst b;simp[BR,m]
  |succ k=>
   simp only[List.take_succ_cons,BR]at h|-
   cases c:Gz t a with
   |no e=>rw[c]at h;cases h
   |yes p q=>
    rw[c]at h;exact n h (by simpa using b)
theorem Us{t d:Tr}{u n:List CW}{l:List Bq}{k i:Nat}{o:Bq}{e:Nat}(h:BR t u i (l.take k)= .yes d n)(b:l[k]? =some o)(j:Gz d o= .no e):
  BR t u i l= .no e (i+k):=by
 induction l generalizing t u i k with
 |nil=>simp at b
 |cons a l m=>
  cases k with
  |zero=>
   simp only[List.take_zero,BR]at h
   injection h with f g
   simp at b;subst f;subst g;subst b;simp[BR,j]
  |succ k=>
   simp only[List.take_succ_cons,BR]at h|-
   cases c:Gz t a with
   |no e=>rw[c]at h;cases h
   |yes p q=>
    rw[c]at h;have:=m h (by simpa using b);rw[Nat.add_assoc,Nat.add_comm 1 k]at this;simp only;exact this
mutual
theorem KG:∀(a b:Tr),BQ a b=true↔a=b
 | .null,b=>by cases b<;>simp[BQ]
 | .flag a,b=>by cases b<;>simp[BQ]
 | .num a,b=>by cases b<;>simp[BQ]
 | .text a,b=>by cases b<;>simp[BQ]
 | .list a,b=>by
  cases b with
  |list m=>simp only[BQ,Gq a m];exact⟨fun h=>by rw[h],fun h=>by injection h⟩
  |_=>simp[BQ]
 | .obj ks a,b=>by
  cases b with
  |obj ls m=>simp only[BQ,Bool.and_eq_true,decide_eq_true_eq,Gq a m];exact⟨fun h=>by rw[h.1,h.2],fun h=>by injection h with h1 h2;exact⟨h1,h2⟩⟩
  |_=>simp[BQ]
theorem Gq:∀(a b:List Tr),ER a b=true↔a=b
 |[],b=>by cases b<;>simp[ER]
 |t::a,b=>by
  cases b with
  |nil=>simp[ER]
  |cons u m=>simp only[ER,Bool.and_eq_true,KG t u,Gq a m,List.cons.injEq]
end
theorem QX{t:Tr}{m:List Tr}{i:Nat}{s:BY}(h:D6 t s=some i):Ab (AW t m)=m:=by
 cases t<;>first|rfl|(simp[D6]at h)
theorem CZ{a:Type}{l:List a}{i:Nat}{u:a}(h:l[i]? =some u)(x:a):l=l.take i++u::l.drop (i+1)/\l.set i x=l.take i++x::l.drop (i+1):=by
 obtain⟨hi,rfl⟩:=Qc.1 h;refine⟨?_, ?_⟩
 .rw[List.getElem_cons_drop,List.take_append_drop]
 .rw[List.set_eq_take_append_cons_drop,Qr hi]
theorem C6{a:Type}(l:List a)(i:Nat):l.eraseIdx i=l.take i++l.drop (i+1):=List.eraseIdx_eq_take_drop_succ l i
theorem AQ{b:Type}(l:List b)(i:Nat)(h:i<=l.length)(x:b):l.insertIdx i x=l.take i++x::l.drop i:=by
 induction l generalizing i with
 |nil=>simp at h;subst h;rfl
 |cons a l c=>
  cases i with
  |zero=>rfl
  |succ i=>simp only[List.insertIdx_succ_cons,List.take_succ_cons,List.drop_succ_cons,Qo,c i (by simpa using h)]
theorem Kb(a b:List Tr)(x:Tr):Bk (a++x::b)=(Ag x).add (Bk (a++b)):=by
 have:(a++x::b).Perm (x::(a++b)):=List.perm_middle;rw[Sn this];rfl
theorem Kc{l:List Tr}{i:Nat}{u:Tr}(h:l[i]? =some u)(x:Tr):Bk l=(Ag u).add (Bk (l.eraseIdx i))/\Bk (l.set i x)=(Ag x).add (Bk (l.eraseIdx i)):=by
 obtain⟨a,b⟩:=CZ h x;rw[C6,b];refine⟨?_,Kb _ _ _⟩
 conv=>lhs;rw[a]
 exact Kb _ _ _
theorem TX(l:List Tr)(i:Nat)(h:i<=l.length)(x:Tr):Bk (l.insertIdx i x)=(Ag x).add (Bk l):=by
 rw[AQ l i h,Kb,List.take_append_drop]
theorem Hx(a b:List BY):Ay (a++b)=Ay a+Ay b:=by unfold Ay;simp
theorem IW{ks:List BY}{i:Nat}{s:BY}(h:ks[i]? =some s):Ay ks=s.size+Ay (ks.eraseIdx i):=by
 obtain⟨a,_⟩:=CZ h s;rw[C6]
 conv=>lhs;rw[a]
 simp[Ay];omega
structure Eg(a a' u u':Sz)(k:Nat):Prop where
 nodes:a'.nodes+u.nodes=a.nodes+u'.nodes
 bytes:a'.bytes+u.bytes=a.bytes+u'.bytes
 up:a'.depth<=max a.depth (k+u'.depth)
 low:k+u'.depth<=a'.depth
theorem Eg.here(u a:Sz):Eg u a u a 0:=⟨Zj,Zj,Zj,Zj⟩
theorem IA{t:Tr}{s:BY}{i:Nat}(h:D6 t s=some i):(∃l,t= .list l)\/(∃ks l,t= .obj ks l):=by
 cases t with
 |list l=>exact .inl ⟨l,rfl⟩
 |obj ks l=>exact .inr ⟨ks,l,rfl⟩
 |_=>simp[D6]at h
theorem Eg.set{t:Tr}{s:BY}{i:Nat}{v a:Tr}{u c:Sz}{k:Nat}(j:D6 t s=some i)(h:(Ab t)[i]? =some v)(g:Eg (Ag v) (Ag a) u c k):
  Eg (Ag t) (Ag (AW t ((Ab t).set i a))) u c (k+1):=by
 obtain⟨e,f⟩:=Kc h a
 have d:∀b,Eg ((Bk (Ab t)).over b) ((Bk ((Ab t).set i a)).over b) u c (k+1):=by
  intro b;rw[e,f];have:=g.nodes;have:=g.bytes;have:=g.up;have:=g.low
  constructor<;>simp only[Sz.add,Sz.over]<;>omega
 rcases IA j with⟨l,rfl⟩|⟨ks,l,rfl⟩
 .simp only[AW,Ab,Ag];exact d 0
 .simp only[AW,Ab,Ag];exact d _
theorem Km{t u:Tr}{s:BY}(h:Dy t s=some u):∃i,D6 t s=some i/\(Ab t)[i]? =some u:=by
 unfold Dy at h
 cases a:D6 t s with
 |none=>rw[a]at h;cases h
 |some i=>rw[a]at h;exact⟨i,rfl,h⟩
theorem CC{t u:Tr}{s:BY}{r:List BY}(h:Ah t (s::r)=some u):∃i v,D6 t s=some i/\(Ab t)[i]? =some v/\Ah v r=some u:=by
 unfold Ah at h
 cases a:Dy t s with
 |none=>rw[a]at h;cases h
 |some v=>
  rw[a]at h;obtain⟨i,b,c⟩:=Km a;exact⟨i,v,b,c,h⟩
theorem BF{f:Tr->Tr}{t v:Tr}{s:BY}{r:List BY}{i:Nat}(a:D6 t s=some i)(b:(Ab t)[i]? =some v):Bz f t (s::r)=AW t ((Ab t).set i (Bz f v r)):=by
 simp only[Bz,a,b]
theorem Gh{f:Tr->Tr}:∀{ts:List BY} {t:Tr} {s:BY},Bz f t (ts++[s])=Bz (fun u=>Bz f u [s]) t ts
 |[],t,s=>rfl
 |a::r,t,s=>by
  simp only[Qo,Bz]
  cases D6 t a with
  |none=>rfl
  |some i=>
   simp only
   cases (Ab t)[i]? with
   |none=>rfl
   |some u=>simp only;rw[Gh];rfl
theorem BW:∀{ts:List BY} {t:Tr} {s:BY},Ah t (ts++[s])=(Ah t ts).bind fun u=>Dy u s
 |[],t,s=>by simp[Ah]
 |a::r,t,s=>by
  simp only[Qo,Ah]
  cases Dy t a with
  |none=>rfl
  |some u=>simp only[Option.bind_some];exact BW
theorem Eg.mod{f:Tr->Tr}{ts:List BY}:∀{t u:Tr},Ah t ts=some u->∀{a b:Sz} {k:Nat},Eg (Ag u) (Ag (f u)) a b k->Eg (Ag t) (Ag (Bz f t ts)) a b (k+ts.length):=by
 induction ts with
 |nil=>intro t u h a b k g;simp only[Ah]at h;injection h with h;subst h;simpa[Bz]using g
 |cons s r j=>
  intro t u h a b k g;obtain⟨i,v,c,d,e⟩:=CC h;rw[BF c d];have:=(j e g).set c d;rw[Qj,<-Nat.add_assoc];exact this
theorem XM{t u x:Tr}{ts:List BY}(h:Ah t ts=some u):Eg (Ag t) (Ag (AE t ts x)) (Ag u) (Ag x) ts.length:=by
 have:=Eg.mod (f:=fun _=>x) h (Eg.here (Ag u) (Ag x));simpa[AE]using this
theorem PM{a c u b:Sz}{k:Nat}(g:Eg a c u b k)(d:a.within=true):
  c.within=(decide (a.nodes+b.nodes-u.nodes<=65536)&&decide (a.bytes+b.bytes-u.bytes<=2097152)&&decide (k+b.depth<=512)):=by
 have h:=Ar d;have:=g.nodes;have:=g.bytes;have:=g.up;have:=g.low;unfold Sz.within
 congr 1
 .congr 1
  .rw[decide_eq_decide];omega
  .rw[decide_eq_decide];omega
 .rw[decide_eq_decide];omega
theorem CL(ts:List BY)(h:ts≠[]):ts.dropLast++[AH ts]=ts:=by
 unfold AH;rw[List.getLastD_eq_getLast?,List.getLast?_eq_some_getLast h,Option.getD_some];exact List.dropLast_concat_getLast h
theorem Ys{ks:List BY}{s:BY}(h:¬C4 ks s=true):s∉ks:=fun g=>h (Cp.2 g)
theorem VA{s:BY}{x p:Tr}(q:Av p)(d:Gg s p=0)(y:∀ks l,p= .obj ks l->C4 ks s=false)(b:Nat)(j:b=match p with| .obj _ _=>s.size|_=>0):
  (Ag (Cj s x p)).nodes=(Ag p).nodes+(Ag x).nodes/\(Ag (Cj s x p)).bytes=(Ag p).bytes+(Ag x).bytes+b/\(Ag (Cj s x p)).depth<=max (Ag p).depth (1+(Ag x).depth)/\1+(Ag x).depth<=(Ag (Cj s x p)).depth:=by
 cases p with
 |list l=>
  simp only at j;subst j
  have r:∀m:List Tr,Bk m=(Ag x).add (Bk l)->(Ag (.list m)).nodes=(Ag (.list l)).nodes+(Ag x).nodes/\(Ag (.list m)).bytes=(Ag (.list l)).bytes+(Ag x).bytes+0/\(Ag (.list m)).depth<=max (Ag (.list l)).depth (1+(Ag x).depth)/\1+(Ag x).depth<=(Ag (.list m)).depth:=by
   intro m d;simp only[Ag,d,Sz.over,Sz.add];omega
  simp only[Cj];by_cases n:s=IN
  .rw[Qr n]
   exact r _ (by rw[show l++[x]=l++x::[]from rfl,Kb,List.append_nil])
  .rw[Qs n]
   simp only[Gg,Qs n]at d
   cases hi:bL s (l.length+1)with
   |none=>
    exfalso
    unfold bL at hi
    cases f:D5 s.data.toList with
    |none=>rw[f]at d;simp at d
    |some k=>
     rw[f]at hi d;simp only at hi d;split at hi
     .cases hi
     .rename_i w;rw[Qs w]at d;cases d
   |some i=>
    have:=Jf hi;exact r _ (TX l i Zj x)
 |obj ks l=>
  simp only at j;subst j;have f:=y ks l rfl;simp only[Av]at q;obtain⟨t,u,_⟩:=q;have B:s∉ks:=fun g=>by rw[Cp.2 g]at f;cases f
  have z:ks.Nodup:=t.rise.imp fun{a b} h e=>by subst e;have:=Utf.Gc a;omega
  have A:(ks++[s]).Nodup:=by
   rw[List.nodup_append];exact⟨z,Zh,fun a v c o=>by simp at o;subst o;exact fun e=>B (e▸v)⟩
  simp only[Cj];rw[Qs (by rw[f];simp),Kd A (by simp[u]),Hx,show l++[x]=l++x::[]from rfl,Kb,List.append_nil];simp only[Ag,Sz.over,Sz.add,Ay,List.map_cons,List.map_nil,List.sum_cons,List.sum_nil];omega
 |_=>simp[Gg]at d
theorem Cy.nodup{ks:List BY}(h:Cy ks):ks.Nodup:=h.rise.imp fun{a b} h e=>by subst e;have:=Utf.Gc a;omega
theorem Cy.sort{ks:List BY}(h:Cy ks):AY ks=ks:=by
 refine DU (fun s=>s) (DG ks) (Cs (fun s=>s) ks) (h.rise.imp fun{a b} h=>(DW (fun s=>s)).2 Zj) fun _ _ _ _ h=>h
theorem On{ks:List BY}{l:List Tr}(d:ks.Nodup)(c:ks.length=l.length):(ks.map fun s=>l.getD (A5 ks s) .null)=l:=by
 apply List.ext_getElem
 .rw[List.length_map,c]
 .intro i a b
  rw[List.getElem_map,GU d i (by simpa using a),List.getD_eq_getElem?_getD,Q9 b];rfl
theorem Cy.objT{ks:List BY}{l:List Tr}(h:Cy ks)(a:ks.length=l.length):D1 ks l= .obj ks l:=by
 unfold Tree.D1 LA;rw[h.sort,On h.nodup a]
theorem Lh{a:Type}(l:List a)(i:Nat)(h:i<=l.length)(x:a):(l.insertIdx i x).Perm (x::l):=by
 rw[AQ l i h]
 conv=>rhs;rw[<-List.take_append_drop i l]
 exact List.perm_middle
theorem If{ks:List BY}{l:List Tr}{s:BY}{x:Tr}{i:Nat}(h:Cy ks)(m:ks.length=l.length)(z:s∉ks)(hi:i<=ks.length)(p:∀t k,t<i->ks[t]? =some k->Utf.BK k s<0)(q:∀t k,i<=t->ks[t]? =some k->0<=Utf.BK k s):
  D1 (ks++[s]) (l++[x])= .obj (ks.insertIdx i s) (l.insertIdx i x):=by
 have w:(ks++[s]).Nodup:=by
  rw[List.nodup_append];exact⟨h.nodup,Zh,fun a f c o=>by simp at o;subst o;exact fun e=>z (e▸f)⟩
 have y:(AY (ks++[s])).Perm (ks.insertIdx i s):=
  (DG _).trans ((List.perm_append_comm (l₁:=ks) (l₂:=[s])).trans (Lh ks i hi s).symm)
 have A:AY (ks++[s])=ks.insertIdx i s:=by
  refine DU (fun s=>s) y (Cs (fun s=>s) _) ?_ fun _ _ _ _ h=>h
  rw[AQ ks i hi,List.pairwise_append,List.pairwise_cons];have g:=h.rise;rw[<-List.take_append_drop i ks,List.pairwise_append]at g;refine⟨g.1.imp fun{a b} h=>(DW (fun s=>s)).2 Zj,⟨fun a f=> ?_,g.2.1.imp fun{a b} h=>(DW (fun s=>s)).2 Zj⟩,fun a f b j=> ?_⟩
  .obtain⟨t,d⟩:=List.mem_iff_getElem?.1 f
   rw[List.getElem?_drop]at d;refine(DW (fun s=>s)).2 ?_;rw[Utf.Ej a s];have:=q _ a Zj d;omega
  .have B:Utf.BK a s<0:=by
    obtain⟨t,d⟩:=List.mem_iff_getElem?.1 f;rw[List.getElem?_take]at d;split at d
    .exact p t a (by assumption) d
    .cases d
   refine(DW (fun s=>s)).2 ?_
   rcases Qh.1 j with rfl|j
   .omega
   .exact Int.le_of_lt (g.2.2 a f b j)
 have n:=On (ks:=ks++[s]) (l:=l++[x]) w (by simp[m]);rw[List.map_append]at n;have r:(ks.map fun k=>(l++[x]).getD (A5 (ks++[s]) k) .null)=l:=(List.append_inj n (by simp[m])).1;have u:([s].map fun k=>(l++[x]).getD (A5 (ks++[s]) k) .null)=[x]:=(List.append_inj n (by simp[m])).2;unfold Tree.D1 LA;rw[A]
 congr 1
 rw[AQ ks i hi,AQ l i Zj,List.map_append,List.map_cons];have v:(l++[x]).getD (A5 (ks++[s]) s) .null=x:=(List.cons.inj u).1;rw[List.map_take,List.map_drop,r,v]
theorem Av.items{t:Tr}(h:Av t):∀u∈Ab t,Av u:=by
 cases t with
 |list l=>exact Cu.1 h
 |obj ks l=>exact Cu.1 h.2.2
 |_=>intro u a;simp[Ab]at a
theorem Av.lead{ts:List BY}:∀{t u:Tr},Av t->Ah t ts=some u->Av u:=by
 induction ts with
 |nil=>intro t u h a;simp only[Ah]at a;injection a with a;exact a▸h
 |cons s r d=>
  intro t u h a;obtain⟨i,v,e,b,c⟩:=CC a;exact d (h.items v (Qi b)) c
theorem Kk{l:List Tr}(h:KO l)(i:Nat){x:Tr}(b:Av x):KO (l.set i x):=by
 rw[Cu]at h|-;intro t a
 rcases List.mem_or_eq_of_mem_set a with a|rfl
 .exact h t a
 .exact b
theorem Av.withSet{t x:Tr}(h:Av t)(i:Nat)(a:Av x):Av (AW t ((Ab t).set i x)):=by
 cases t with
 |list l=>simp only[AW,Ab,Av]at h|-;exact Kk h i a
 |obj ks l=>simp only[AW,Ab,Av]at h|-;exact⟨h.1,by rw[List.length_set];exact h.2.1,Kk h.2.2 i a⟩
 |_=>exact h
theorem Av.mod{f:Tr->Tr}{ts:List BY}:∀{t u:Tr},Av t->Ah t ts=some u->Av (f u)->Av (Bz f t ts):=by
 induction ts with
 |nil=>intro t u h a b;simp only[Ah]at a;injection a with a;subst a;exact b
 |cons s r g=>
  intro t u h a b;obtain⟨i,v,d,c,e⟩:=CC a;rw[BF d c];exact h.withSet i (g (h.items v (Qi c)) e b)
theorem Cy.erase{ks:List BY}(h:Cy ks)(i:Nat):Cy (ks.eraseIdx i):=by
 have a:=List.eraseIdx_sublist ks i;exact⟨fun s b=>h.right s (a.subset b),fun s b=>h.small s (a.subset b),h.rise.sublist a,Q7 a.length_le h.many⟩
theorem Av.cut{s:BY}{p:Tr}(h:Av p):Av (CT s p):=by
 unfold CT
 cases b:D6 p s with
 |none=>exact h
 |some i=>
  cases p with
  |list l=>
   simp only[Av]at h|-;rw[Cu]at h|-;exact fun t a=>h t ((List.eraseIdx_sublist l i).subset a)
  |obj ks l=>
   simp only[Av]at h|-;refine⟨h.1.erase i, ?_, ?_⟩
   .rw[List.length_eraseIdx,List.length_eraseIdx,h.2.1]
   .have:=Cu.1 h.2.2
    exact Cu.2 fun t a=>this t ((List.eraseIdx_sublist l i).subset a)
  |_=>exact h
theorem Av.add{s:BY}{p x:Tr}(h:Av p)(f:Av x)(r:Utf.Al s=true)(v:s.size<=2147483648)(q:(Ab p).length<65536):Av (Cj s x p):=by
 cases p with
 |list l=>
  simp only[Cj];have j:∀u∈l,Av u:=Cu.1 h
  split
  .simp only[Av]
   exact Cu.2 fun t b=>by
    rcases Qf.1 b with b|b
    .exact j t b
    .simp at b;subst b;exact f
  .split
   .rename_i i hi
    simp only[Av]
    exact Cu.2 fun t b=>by
     rcases Qh.1 ((Lh l i (by have:=Jf hi;omega) x).mem_iff.1 b)with rfl|b
     .exact f
     .exact j t b
   .exact h
 |obj ks l=>
  simp only[Cj];simp only[Av]at h;split
  .simp only[Av]
   exact⟨h.1,by rw[List.length_set];exact h.2.1,Kk h.2.2 _ f⟩
  .rename_i d
   have d:=Ys d
   have m:(ks++[s]).Nodup:=by
    rw[List.nodup_append];exact⟨h.1.nodup,Zh,fun a n c g=>by simp at g;subst g;exact fun e=>d (e▸n)⟩
   have o:(ks++[s]).length=(l++[x]).length:=by simp[h.2.1]
   unfold Tree.D1;simp only[Av];refine⟨KY ?_ ?_ ?_ m,by rw[A3,DD],Cu.2 fun t b=> ?_⟩
   .intro k d;rcases Qf.1 d with d|d
    .exact h.1.right k d
    .simp at d;subst d;exact r
   .intro k d;rcases Qf.1 d with d|d
    .exact h.1.small k d
    .simp at d;subst d;exact v
   .simp only[Ab]at q;simp;omega
   .have b:=(Ku m o).mem_iff.1 b
    rcases Qf.1 b with b|b
    .exact Cu.1 h.2.2 t b
    .simp at b;subst b;exact f
 |_=>simp only[Cj];exact h
def AG:Tr->Vl
 | .null=> .iface 271 (.agg #[])
 | .flag b=> .iface 272 (.bool b)
 | .num n=> .iface 273 (.float .f64 n)
 | .text s=> .iface 179 (.string s)
 |_=> .nilIface
mutual
def AP (w:Wl):Tr->Vl->List Nat->Prop
 | .list l,v,bs=>∃b sv vs fs,v= .iface 104 (.pointer (some ⟨b,0,none⟩))/\Ac w b [sv] 107/\AK w sv 95 vs/\PsAt w l vs fs/\bs=b::(sv.ownBlock.toList++fs)
 | .obj ks l,v,bs=>∃b sv sk vs fs,v= .iface 175 (.pointer (some ⟨b,0,none⟩))/\Ac w b [sv,sk] 177/\AK w sv 95 vs/\AK w sk 9 (Ad ks)/\ks.length=l.length/\PsAt w l vs fs/\
  bs=b::(sv.ownBlock.toList++(sk.ownBlock.toList++fs))
 | .null,v,bs=>v= .iface 183 (.agg #[AG .null])/\bs=[]
 | .flag b,v,bs=>v= .iface 183 (.agg #[AG (.flag b)])/\bs=[]
 | .num n,v,bs=>v= .iface 183 (.agg #[AG (.num n)])/\bs=[]
 | .text s,v,bs=>v= .iface 183 (.agg #[AG (.text s)])/\bs=[]
def PsAt (w:Wl):List Tr->List Vl->List Nat->Prop
 |[],vs,bs=>vs=[]/\bs=[]
 |t::l,vs,bs=>∃v r b1 b2,vs=v::r/\AP w t v b1/\PsAt w l r b2/\bs=b1++b2
end
def Ca(bs:List Nat)(w w':Wl):Prop:=∀b,b∈bs->w'.heap[b]? =w.heap[b]?
theorem Ca.mono{cs bs:List Nat}{w w':Wl}(h:Ca bs w w')(c:∀b,b∈cs->b∈bs):Ca cs w w':=fun b a=>h b (c b a)
theorem Ca.left{cs bs:List Nat}{w w':Wl}(h:Ca (cs++bs) w w'):Ca cs w w':=h.mono fun b a=>Qe _ a
theorem Ca.right{cs bs:List Nat}{w w':Wl}(h:Ca (cs++bs) w w'):Ca bs w w':=h.mono fun b a=>Qd _ a
theorem Ca.perm{cs bs:List Nat}{w w':Wl}(h:Ca bs w w')(c:cs.Perm bs):Ca cs w w':=h.mono fun b a=>c.mem_iff.1 a
theorem Ac.same{w w':Wl}{b:Nat}{cs:List Vl}{T:Ti}(h:Ac w b cs T)(e:w'.heap[b]? =w.heap[b]?):Ac w' b cs T:=e.trans h
theorem AK.same{w w':Wl}{sv:Vl}{e:Ti}{xs:List Vl}(h:AK w sv e xs)(i:Ca sv.ownBlock.toList w w'):AK w' sv e xs:=by
 obtain⟨f,a⟩:=h;refine⟨f, ?_⟩
 rcases a with a|⟨g,c,d,b,j,k,r⟩
 .exact .inl a
 .refine .inr ⟨g,c,d,b,j, ?_,r⟩
  rw[i g (by subst b;simp[Vl.ownBlock])];exact k
theorem AK.ltB{w:Wl}{sv:Vl}{e:Ti}{xs:List Vl}(h:AK w sv e xs):∀b,b∈sv.ownBlock.toList->b<w.heap.size:=fun b a=>h.lt (by simpa using a)
mutual
theorem AP.same {w w':Wl}:∀(t:Tr) (v:Vl) (bs:List Nat),Ca bs w w'->AP w t v bs->AP w' t v bs
 | .list l,v,bs,hs,h=>by
  simp only[AP]at h|-;obtain⟨b,sv,vs,fs,h1,h2,h3,h4,rfl⟩:=h;exact⟨b,sv,vs,fs,h1,h2.same (hs b Zh),h3.same (hs.mono fun c hc=>by simp at hc|-;exact .inr (.inl hc)),PsAt.same l vs fs (hs.mono fun c hc=>by simp;exact .inr (.inr hc)) h4,rfl⟩
 | .obj ks l,v,bs,hs,h=>by
  simp only[AP]at h|-;obtain⟨b,sv,sk,vs,fs,h1,h2,h3,h5,h6,h4,rfl⟩:=h
  exact⟨b,sv,sk,vs,fs,h1,h2.same (hs b Zh),h3.same (hs.mono fun c hc=>by simp at hc|-;exact .inr (.inl hc)),h5.same (hs.mono fun c hc=>by simp at hc|-;exact .inr (.inr (.inl hc))),h6,
   PsAt.same l vs fs (hs.mono fun c hc=>by simp;exact .inr (.inr (.inr hc))) h4,rfl⟩
 | .null,v,bs,_,h=>by simp only[AP]at h|-;exact h
 | .flag _,v,bs,_,h=>by simp only[AP]at h|-;exact h
 | .num _,v,bs,_,h=>by simp only[AP]at h|-;exact h
 | .text _,v,bs,_,h=>by simp only[AP]at h|-;exact h
theorem PsAt.same {w w':Wl}:∀(l:List Tr) (vs:List Vl) (bs:List Nat),Ca bs w w'->PsAt w l vs bs->PsAt w' l vs bs
 |[],vs,bs,_,h=>by simp only[PsAt]at h|-;exact h
 |t::l,vs,bs,hs,h=>by
  simp only[PsAt]at h|-;obtain⟨v,r,b1,b2,h1,h2,h3,rfl⟩:=h;exact⟨v,r,b1,b2,h1,AP.same t v b1 hs.left h2,PsAt.same l r b2 hs.right h3,rfl⟩
end
mutual
theorem AP.lt {w:Wl}:∀(t:Tr) (v:Vl) (bs:List Nat),AP w t v bs->∀b,b∈bs->b<w.heap.size
 | .list l,v,bs,h=>by
  simp only[AP]at h;obtain⟨b,sv,vs,fs,h1,h2,h3,h4,rfl⟩:=h;intro c hc
  rcases Qh.1 hc with rfl|hc
  .exact h2.lt
  .rcases Qf.1 hc with hc|hc
   .exact h3.ltB c hc
   .exact PsAt.lt l vs fs h4 c hc
 | .obj ks l,v,bs,h=>by
  simp only[AP]at h;obtain⟨b,sv,sk,vs,fs,h1,h2,h3,h5,h6,h4,rfl⟩:=h;intro c hc
  rcases Qh.1 hc with rfl|hc
  .exact h2.lt
  .rcases Qf.1 hc with hc|hc
   .exact h3.ltB c hc
   .rcases Qf.1 hc with hc|hc
    .exact h5.ltB c hc
    .exact PsAt.lt l vs fs h4 c hc
 | .null,v,bs,h=>by simp only[AP]at h;obtain⟨_,rfl⟩:=h;intro c hc;cases hc
 | .flag _,v,bs,h=>by simp only[AP]at h;obtain⟨_,rfl⟩:=h;intro c hc;cases hc
 | .num _,v,bs,h=>by simp only[AP]at h;obtain⟨_,rfl⟩:=h;intro c hc;cases hc
 | .text _,v,bs,h=>by simp only[AP]at h;obtain⟨_,rfl⟩:=h;intro c hc;cases hc
theorem PsAt.lt {w:Wl}:∀(l:List Tr) (vs:List Vl) (bs:List Nat),PsAt w l vs bs->∀b,b∈bs->b<w.heap.size
 |[],vs,bs,h=>by simp only[PsAt]at h;obtain⟨_,rfl⟩:=h;intro c hc;cases hc
 |t::l,vs,bs,h=>by
  simp only[PsAt]at h;obtain⟨v,r,b1,b2,h1,h2,h3,rfl⟩:=h;intro c hc
  rcases Qf.1 hc with hc|hc
  .exact AP.lt t v b1 h2 c hc
  .exact PsAt.lt l r b2 h3 c hc
end
theorem AP.chg{w w':Wl}{t:Tr}{v:Vl}{bs cs:List Nat}(h:AP w t v bs)(c:Chg w w' cs)(d:∀b,b∈cs->b∉bs):AP w' t v bs:=
 AP.same t v bs (fun b a=>c.block b (AP.lt t v bs h b a) fun e=>d b e a) h
theorem PsAt.chg{w w':Wl}{l:List Tr}{vs:List Vl}{bs cs:List Nat}(h:PsAt w l vs bs)(c:Chg w w' cs)(d:∀b,b∈cs->b∉bs):PsAt w' l vs bs:=
 PsAt.same l vs bs (fun b a=>c.block b (PsAt.lt l vs bs h b a) fun e=>d b e a) h
theorem PsAt.length{w:Wl}:∀{l:List Tr} {vs:List Vl} {bs:List Nat},PsAt w l vs bs->vs.length=l.length
 |[],_,_,h=>by simp only[PsAt]at h;obtain⟨rfl,_⟩:=h;rfl
 |t::l,_,_,h=>by
  simp only[PsAt]at h;obtain⟨v,r,b,c,rfl,_,a,_⟩:=h;have:=a.length;simp[this]
theorem AP.iface{w:Wl}{t:Tr}{v:Vl}{bs:List Nat}(h:AP w t v bs):∃a x,v= .iface a x:=by
 cases t<;>simp only[AP]at h
 case list=>obtain⟨_,_,_,_,rfl,_⟩:=h;exact⟨_,_,rfl⟩
 case obj=>obtain⟨_,_,_,_,_,rfl,_⟩:=h;exact⟨_,_,rfl⟩
 all_goals(obtain⟨rfl,_⟩:=h;exact⟨_,_,rfl⟩)
theorem PsAt.one{w:Wl}:∀{l:List Tr} {vs:List Vl} {bs:List Nat},PsAt w l vs bs->∀u∈vs,u.oneCell'=true
 |[],_,_,h,u,a=>by simp only[PsAt]at h;obtain⟨rfl,_⟩:=h;cases a
 |t::l,_,_,h,u,a=>by
  simp only[PsAt]at h;obtain⟨v,r,d,e,rfl,b,c,_⟩:=h
  rcases Qh.1 a with rfl|a
  .obtain⟨f,x,rfl⟩:=b.iface;rfl
  .exact c.one u a
theorem PsAt.append{w:Wl}:∀{l m:List Tr} {vs us:List Vl} {bs cs:List Nat},PsAt w l vs bs->PsAt w m us cs->PsAt w (l++m) (vs++us) (bs++cs)
 |[],_,_,_,_,_,h,k=>by simp only[PsAt]at h;obtain⟨rfl,rfl⟩:=h;exact k
 |t::l,_,_,_,_,_,h,k=>by
  simp only[PsAt,Qo]at h|-;obtain⟨v,r,a,b,rfl,c,d,rfl⟩:=h;exact⟨v,r++_,a,b++_,rfl,c,d.append k,by rw[List.append_assoc]⟩
theorem PsAt.cons{w:Wl}{t:Tr}{l:List Tr}{v:Vl}{vs:List Vl}{bs cs:List Nat}(h:AP w t v bs)(k:PsAt w l vs cs):PsAt w (t::l) (v::vs) (bs++cs):=by
 simp only[PsAt];exact⟨v,vs,bs,cs,rfl,h,k,rfl⟩
theorem PsAt.split{w:Wl}:∀{l m:List Tr} {vs:List Vl} {bs:List Nat},PsAt w (l++m) vs bs->∃a b,PsAt w l (vs.take l.length) a/\PsAt w m (vs.drop l.length) b/\bs=a++b
 |[],m,vs,bs,h=>⟨[],bs,by simp[PsAt],by simpa using h,rfl⟩
 |t::l,m,vs,bs,h=>by
  simp only[PsAt,Qo]at h;obtain⟨v,r,c,j,rfl,e,f,rfl⟩:=h;obtain⟨c1,d,g,i,rfl⟩:=f.split;exact⟨c++c1,d,by simpa using PsAt.cons e g,by simpa using i,by rw[List.append_assoc]⟩
theorem PsAt.mid{w:Wl}{l:List Tr}{vs:List Vl}{bs:List Nat}{i:Nat}{u:Tr}(h:PsAt w l vs bs)(g:l[i]? =some u):
  ∃v a b c,vs[i]? =some v/\AP w u v b/\PsAt w (l.take i) (vs.take i) a/\PsAt w (l.drop (i+1)) (vs.drop (i+1)) c/\bs=a++(b++c):=by
 obtain⟨hi,_⟩:=Qc.1 g;obtain⟨e,_⟩:=CZ g u;have q:=h.length;rw[e]at h;obtain⟨a,c,f,d,rfl⟩:=h.split;have n:(l.take i).length=i:=by rw[Ql];omega
 rw[n]at f d;simp only[PsAt]at d;obtain⟨v,r,b,k,j,o,p,rfl⟩:=d;have m:vs.drop (i+1)=r:=by rw[<-List.drop_drop,j];rfl
 refine⟨v,a,b,k, ?_,o,f,m▸p,rfl⟩;rw[<-List.head?_drop,j];rfl
def Dv(w:Wl):Tr->Vl->List BY->Vl->Prop
 |_,v,[],a=>a=v
 |t,v,s::r,a=>∃i u b g n c d e,D6 t s=some i/\(Ab t)[i]? =some u/\v= .iface e (.pointer (some ⟨b,0,none⟩))/\w.cell? ⟨b,0,none⟩=some (.slice (some ⟨g,0,none⟩) n c)/\w.cell? ⟨g,i,none⟩=some d/\Dv w u d r a
theorem Dv.inj{w:Wl}:∀{ts:List BY} {t:Tr} {v a b:Vl},Dv w t v ts a->Dv w t v ts b->a=b
 |[],_,_,_,_,h,k=>by simp only[Dv]at h k;rw[h,k]
 |s::r,_,_,_,_,h,k=>by
  simp only[Dv]at h k;obtain⟨i,u,b,g,n,c,J,G,m,o,p,q,x,y⟩:=h;obtain⟨D,I,A,C,F,B,K,H,f,j,d,e,l,z⟩:=k
  rw[m]at f;injection f with f;subst f
  rw[o]at j;injection j with j;subst j
  rw[p]at d;injection d with E d;injection d with d;injection d with d;injection d with d;subst d
  rw[q]at e;injection e with e;injection e with e;injection e with e;injection e with e;subst e
  rw[x]at l;injection l with l;subst l
  exact y.inj z
theorem Dv.snoc{w:Wl}:∀{ts:List BY} {t u:Tr} {v e x:Vl} {s:BY},Ah t ts=some u->Dv w t v ts e->Dv w u e [s] x->Dv w t v (ts++[s]) x
 |[],t,u,v,e,x,s,d,h,k=>by
  simp only[Ah]at d;injection d with d;subst d
  have h:e=v:=by simpa only[Dv]using h
  subst h;exact k
 |a::r,t,u,v,e,x,s,d,h,k=>by
  obtain⟨E,z,f,j,A⟩:=CC d;simp only[Dv,Qo]at h|-;obtain⟨i,C,b,g,n,c,D,B,l,m,o,p,q,y⟩:=h
  rw[l]at f;injection f with f;subst f
  rw[m]at j;injection j with j;subst j
  exact⟨i,C,b,g,n,c,D,B,l,m,o,p,q,y.snoc A k⟩
structure Ir(w:Wl)(t:Tr)(v:Vl)(bs:List Nat)(ts:List BY)(u:Tr)(vu:Vl)(bu rest:List Nat):Prop where
 lead:Ah t ts=some u
 reach:Dv w t v ts vu
 at_:AP w u vu bu
 perm:bs.Perm (bu++rest)
 back:∀(f:Tr->Tr) (w':Wl) (bu':List Nat),AP w' (f u) vu bu'->Ca rest w w'->∃bs',AP w' (Bz f t ts) v bs'/\bs'.Perm (bu'++rest)
theorem Ir.here{w:Wl}{t:Tr}{v:Vl}{bs:List Nat}(h:AP w t v bs):Ir w t v bs [] t v bs []:=
 ⟨rfl,rfl,h,Zh,fun f w' a b _=>⟨a,by simpa[Bz]using b,Zh⟩⟩
theorem Ir.snoc{w:Wl}{t u x:Tr}{v j l:Vl}{bs c d b i:List Nat}{ts:List BY}{s:BY}(h:Ir w t v bs ts u j c b)(k:Ir w u j c [s] x l d i):
  Ir w t v bs (ts++[s]) x l d (i++b):=by
 refine⟨?_,h.reach.snoc h.lead k.reach,k.at_, ?_, ?_⟩
 .have a:=k.lead
  simp only[Ah]at a;rw[BW,h.lead];simp only[Option.bind_some]
  cases e:Dy u s with
  |none=>rw[e]at a;cases a
  |some y=>rw[e]at a;simpa using a
 .rw[<-List.append_assoc];exact h.perm.trans (k.perm.append_right b)
 .intro f w' o A g
  obtain⟨m,p,q⟩:=k.back f w' o A g.left;obtain⟨n,r,z⟩:=h.back (fun u=>Bz f u [s]) w' m p g.right;refine⟨n,by rw[Gh];exact r,z.trans ?_⟩;rw[<-List.append_assoc];exact q.append_right b
theorem Fx{w:Wl}{t u:Tr}{v:Vl}{bs:List Nat}{s:BY}{i:Nat}(h:AP w t v bs)(C:D6 t s=some i)(p:(Ab t)[i]? =some u):
  ∃b g n c m o rest R,v= .iface R (.pointer (some ⟨b,0,none⟩))/\w.cell? ⟨b,0,none⟩=some (.slice (some ⟨g,0,none⟩) n c)/\w.cell? ⟨g,i,none⟩=some m/\Ir w t v bs [s] u m o rest:=by
 have M:Ah t [s]=some u:=by simp[Ah,Dy,C,p]
 have N:∀f,Bz f t [s]=AW t ((Ab t).set i (f u)):=fun f=>by rw[BF C p];rfl
 cases t with
 |list l=>
  simp only[AP]at h;simp only[Ab]at p;obtain⟨b,sv,vs,O,rfl,z,y,D,rfl⟩:=h;obtain⟨m,d,o,j,x,H,I,J,rfl⟩:=D.mid p;obtain⟨a,c,rfl,F⟩:=y.form;obtain⟨g,rfl⟩:=F (by intro e;subst e;simp at x);have A:w.cell? ⟨b,0,none⟩=some (.slice (some ⟨g,0,none⟩) vs.length c):=z.cell 0;have B:=y.cell rfl i m x;refine⟨b,g,_,c,m,o,b::g::(d++j),_,rfl,A,B,M,⟨i,u,b,g,_,c,m,_,C,p,rfl,A,B,rfl⟩,H, ?_, ?_⟩
  .have:(b::((Vl.slice (some ⟨g,0,none⟩) vs.length c).ownBlock.toList++(d++(o++j)))).Perm (o++(b::g::(d++j))):=by
    simp only[Vl.ownBlock,Option.toList_some,Qo,List.nil_append];refine List.Perm.trans ?_ (List.perm_append_comm (l₁:=b::g::(d++j)) (l₂:=o));simp only[Qo,List.append_assoc];exact((List.perm_append_comm (l₁:=o) (l₂:=j)).append_left d).cons g|>.cons b
   exact this
  .intro f w' r E q
   rw[N f];have hi:=(Qc.1 p).1;have S:=(Qc.1 x).1;refine⟨b::g::(d++(r++j)), ?_, ?_⟩
   .simp only[AW,Ab,AP]
    refine⟨b,_,vs,d++(r++j),rfl,z.same (q b Zh),y.same (q.mono fun c k=>by simp[Vl.ownBlock]at k;subst k;simp), ?_,rfl⟩;rw[(CZ p (f u)).2];have G:vs=vs.take i++m::vs.drop (i+1):=(CZ x m).1;rw[G];have K:=PsAt.same _ _ _ (q.mono fun c k=>by simp;exact .inr (.inr (.inl k))) I;have L:=PsAt.same _ _ _ (q.mono fun c k=>by simp;exact .inr (.inr (.inr k))) J;exact K.append (PsAt.cons E L)
   .refine List.Perm.trans ?_ (List.perm_append_comm (l₁:=b::g::(d++j)) (l₂:=r))
    simp only[Qo,List.append_assoc];exact((List.perm_append_comm (l₁:=r) (l₂:=j)).append_left d).cons g|>.cons b
 |obj ks l=>
  simp only[AP]at h;simp only[Ab]at p;obtain⟨b,sv,sk,vs,O,rfl,z,y,P,Q,D,rfl⟩:=h;obtain⟨m,d,o,j,x,H,I,J,rfl⟩:=D.mid p;obtain⟨a,c,rfl,F⟩:=y.form;obtain⟨g,rfl⟩:=F (by intro e;subst e;simp at x);have A:w.cell? ⟨b,0,none⟩=some (.slice (some ⟨g,0,none⟩) vs.length c):=z.cell 0;have B:=y.cell rfl i m x;refine⟨b,g,_,c,m,o,b::g::(sk.ownBlock.toList++(d++j)),_,rfl,A,B,M,⟨i,u,b,g,_,c,m,_,C,p,rfl,A,B,rfl⟩,H, ?_, ?_⟩
  .have:(b::((Vl.slice (some ⟨g,0,none⟩) vs.length c).ownBlock.toList++(sk.ownBlock.toList++(d++(o++j))))).Perm (o++(b::g::(sk.ownBlock.toList++(d++j)))):=by
    simp only[Vl.ownBlock,Option.toList_some,Qo,List.nil_append];refine List.Perm.trans ?_ (List.perm_append_comm (l₁:=b::g::(sk.ownBlock.toList++(d++j))) (l₂:=o));simp only[Qo,List.append_assoc];exact(((List.perm_append_comm (l₁:=o) (l₂:=j)).append_left d).append_left _).cons g|>.cons b
   exact this
  .intro f w' r E q
   rw[N f];refine⟨b::g::(sk.ownBlock.toList++(d++(r++j))), ?_, ?_⟩
   .simp only[AW,Ab,AP]
    refine⟨b,_,sk,vs,d++(r++j),rfl,z.same (q b Zh),y.same (q.mono fun c k=>by simp[Vl.ownBlock]at k;subst k;simp),
     P.same (q.mono fun c k=>by simp only[Qh,Qf];exact .inr (.inr (.inl k))),by rw[List.length_set];exact Q, ?_,rfl⟩
    rw[(CZ p (f u)).2];have G:vs=vs.take i++m::vs.drop (i+1):=(CZ x m).1;rw[G];have K:=PsAt.same _ _ _ (q.mono fun c k=>by simp only[Qh,Qf];exact .inr (.inr (.inr (.inl k)))) I;have L:=PsAt.same _ _ _ (q.mono fun c k=>by simp only[Qh,Qf];exact .inr (.inr (.inr (.inr k)))) J;exact K.append (PsAt.cons E L)
   .refine List.Perm.trans ?_ (List.perm_append_comm (l₁:=b::g::(sk.ownBlock.toList++(d++j))) (l₂:=r))
    simp only[Qo,List.append_assoc];exact(((List.perm_append_comm (l₁:=r) (l₂:=j)).append_left d).append_left _).cons g|>.cons b
 |_=>simp[D6]at C
theorem Ew{d:Type}(a b c:List d):(a++(b++c)).Perm (b++(a++c)):=by
 rw[<-List.append_assoc,<-List.append_assoc];exact List.perm_append_comm.append_right c
theorem PsAt.erase{w:Wl}{l:List Tr}{vs:List Vl}{bs:List Nat}{i:Nat}{u:Tr}(h:PsAt w l vs bs)(j:l[i]? =some u):
  ∃v a rest,vs[i]? =some v/\AP w u v a/\PsAt w (l.eraseIdx i) (vs.eraseIdx i) rest/\bs.Perm (a++rest):=by
 obtain⟨v,b,a,c,d,e,f,g,rfl⟩:=h.mid j;refine⟨v,a,b++c,d,e, ?_,Ew b a c⟩;rw[C6,C6];exact f.append g
theorem PsAt.set{w:Wl}{l:List Tr}{vs:List Vl}{bs d:List Nat}{i:Nat}{u x:Tr}{e:Vl}(h:PsAt w l vs bs)(j:l[i]? =some u)(o:AP w x e d):
  ∃v a rest f,vs[i]? =some v/\AP w u v a/\bs.Perm (a++rest)/\PsAt w (l.set i x) (vs.set i e) f/\f.Perm (d++rest):=by
 obtain⟨v,b,a,c,g,k,m,n,rfl⟩:=h.mid j;refine⟨v,a,b++c,b++(d++c),g,k,Ew b a c, ?_,Ew b d c⟩;rw[(CZ j x).2,(CZ g e).2];exact m.append (PsAt.cons o n)
theorem PsAt.insert{w:Wl}{l:List Tr}{vs:List Vl}{bs a:List Nat}{i:Nat}{x:Tr}{j:Vl}(h:PsAt w l vs bs)(hi:i<=l.length)(m:AP w x j a):
  ∃d,PsAt w (l.insertIdx i x) (vs.insertIdx i j) d/\d.Perm (a++bs):=by
 have n:=h.length;have e:=List.take_append_drop i l;rw[<-e]at h;obtain⟨b,c,f,g,rfl⟩:=h.split;have k:(l.take i).length=i:=by rw[Ql];omega
 rw[k]at f g;refine⟨b++(a++c), ?_,Ew b a c⟩;rw[AQ l i hi,AQ vs i Zj];exact f.append (PsAt.cons m g)
def Kp:List BY->List Vl->List Vl
 |k::ks,v::vs=> .string k::v::Kp ks vs
 |_,_=>[]
theorem K0:∀{ks:List BY} {vs:List Vl},ks.length=vs.length->(Kp ks vs).length=2*ks.length
 |[],[],_=>rfl
 |k::ks,v::vs,h=>by simp[Kp,K0 (ks:=ks) (vs:=vs) (by simpa using h)];omega
 |[],_::_,h=>by simp at h
 |_::_,[],h=>by simp at h
theorem Mi:∀{ks:List BY} {vs:List Vl} {i:Nat} {k:BY} {v:Vl},ks[i]? =some k->vs[i]? =some v->(Kp ks vs)[2*i]? =some (.string k)/\(Kp ks vs)[2*i+1]? =some v
 |a::ks,b::vs,0,k,v,c,d=>by simp at c d;subst c;subst d;exact⟨rfl,rfl⟩
 |a::ks,b::vs,i+1,k,v,c,d=>by
  have:=Mi (ks:=ks) (vs:=vs) (i:=i) (by simpa using c) (by simpa using d);rw[show 2*(i+1)=2*i+1+1 from by omega];exact this
 |[],_,i,k,v,c,_=>by simp at c
 |_::_,[],i,k,v,_,d=>by simp at d
theorem Oj:∀{ks:List BY} {vs:List Vl} {k:BY} {v:Vl},ks.length=vs.length->Kp (ks++[k]) (vs++[v])=Kp ks vs++[.string k,v]
 |[],[],_,_,_=>rfl
 |a::ks,b::vs,k,v,h=>by simp[Kp,Oj (ks:=ks) (vs:=vs) (k:=k) (v:=v) (by simpa using h)]
 |[],_::_,_,_,h=>by simp at h
 |_::_,[],_,_,h=>by simp at h
mutual
def Hm (w:Wl) (F:Nat->Prop):Tr->Vl->Prop
 | .list l,v=>∃sl vs,v= .iface 141 sl/\Ax w F sl vs/\Dc w F l vs
 | .obj ks l,v=>∃la c vs,v= .iface 149 (.slice la l.length c)/\ks.length=l.length/\LP w F la (Kp ks vs)/\Dc w F l vs
 | .null,v=>v=AG .null
 | .flag b,v=>v=AG (.flag b)
 | .num n,v=>v=AG (.num n)
 | .text s,v=>v=AG (.text s)
def Dc (w:Wl) (F:Nat->Prop):List Tr->List Vl->Prop
 |[],vs=>vs=[]
 |t::l,vs=>∃v r,vs=v::r/\Hm w F t v/\Dc w F l r
end
mutual
theorem Hm.kept {w w':Wl} {F G:Nat->Prop} (hk:BZ F w w') (hF:∀b,F b->G b):∀(t:Tr) (v:Vl),Hm w F t v->Hm w' G t v
 | .list l,v,h=>by
  simp only[Hm]at h|-;obtain⟨sl,vs,h1,h2,h3⟩:=h;exact⟨sl,vs,h1,h2.kept hk hF,Dc.kept hk hF l vs h3⟩
 | .obj ks l,v,h=>by
  simp only[Hm]at h|-;obtain⟨la,c,vs,h1,h0,h2,h3⟩:=h;exact⟨la,c,vs,h1,h0,h2.kept hk hF,Dc.kept hk hF l vs h3⟩
 | .null,_,h=>by simp only[Hm]at h|-;exact h
 | .flag _,_,h=>by simp only[Hm]at h|-;exact h
 | .num _,_,h=>by simp only[Hm]at h|-;exact h
 | .text _,_,h=>by simp only[Hm]at h|-;exact h
theorem Dc.kept {w w':Wl} {F G:Nat->Prop} (hk:BZ F w w') (hF:∀b,F b->G b):∀(l:List Tr) (vs:List Vl),Dc w F l vs->Dc w' G l vs
 |[],_,h=>by simp only[Dc]at h|-;exact h
 |t::l,vs,h=>by
  simp only[Dc]at h|-;obtain⟨v,r,h1,h2,h3⟩:=h;exact⟨v,r,h1,Hm.kept hk hF t v h2,Dc.kept hk hF l r h3⟩
end
theorem Dc.length{w:Wl}{F:Nat->Prop}:∀{l:List Tr} {vs:List Vl},Dc w F l vs->vs.length=l.length
 |[],_,h=>by simp only[Dc]at h;subst h;rfl
 |t::l,_,h=>by
  simp only[Dc]at h;obtain⟨v,r,rfl,_,a⟩:=h;simp[a.length]
theorem Dc.get{w:Wl}{F:Nat->Prop}:∀{l:List Tr} {vs:List Vl},Dc w F l vs->∀(i:Nat) (t:Tr),l[i]? =some t->∃v,vs[i]? =some v/\Hm w F t v
 |[],_,_,i,t,hi=>by simp at hi
 |u::l,vs,h,i,t,hi=>by
  simp only[Dc]at h;obtain⟨v,r,rfl,c,d⟩:=h
  cases i with
  |zero=>simp at hi;subst hi;exact⟨v,rfl,c⟩
  |succ i=>simp at hi;obtain⟨e,a,b⟩:=d.get i t hi;exact⟨e,by simpa using a,b⟩
theorem Dc.snoc{w:Wl}{F:Nat->Prop}:∀{l:List Tr} {vs:List Vl} {t:Tr} {v:Vl},Dc w F l vs->Hm w F t v->Dc w F (l++[t]) (vs++[v])
 |[],_,t,v,h,k=>by simp only[Dc]at h;subst h;exact⟨v,[],rfl,k,rfl⟩
 |u::l,_,t,v,h,k=>by
  simp only[Dc]at h;obtain⟨a,r,rfl,b,c⟩:=h;exact⟨a,r++[v],rfl,b,c.snoc k⟩
theorem PsAt.snoc{w:Wl}{l:List Tr}{vs:List Vl}{bs a:List Nat}{t:Tr}{v:Vl}(h:PsAt w l vs bs)(k:AP w t v a):PsAt w (l++[t]) (vs++[v]) (bs++a):=by
 have:PsAt w [t] [v] a:=⟨v,[],a,[],rfl,k,⟨rfl,rfl⟩,Zh⟩;exact h.append this
theorem PsAt.get{w:Wl}{l:List Tr}{vs:List Vl}{bs:List Nat}(h:PsAt w l vs bs){i:Nat}{u:Tr}(f:l[i]? =some u):∃v a,vs[i]? =some v/\AP w u v a/\∀b,b∈a->b∈bs:=by
 obtain⟨v,g,a,j,c,d,_,_,rfl⟩:=h.mid f;exact⟨v,a,c,d,fun b e=>by simp[e]⟩
theorem Hm.iface{w:Wl}{F:Nat->Prop}{t:Tr}{v:Vl}(h:Hm w F t v):∃a x,v= .iface a x:=by
 cases t<;>simp only[Hm]at h
 case list=>obtain⟨_,_,rfl,_⟩:=h;exact⟨_,_,rfl⟩
 case obj=>obtain⟨_,_,_,rfl,_⟩:=h;exact⟨_,_,rfl⟩
 all_goals(subst h;exact⟨_,_,rfl⟩)
def Ht(t:Tr)(w:Wl)(e:Ending)(w':Wl):Prop:=
 ∃v G,e= .returned v/\Hm w' G t v/\Chg w w' []/\∀b,G b->w.heap.size<=b/\b<w'.heap.size
def T8(w0:Wl)(l:List Tr)(k:Nat)(a:Vl)(wr:Wl):Prop:=
 ∃xs G,AK wr a 144 xs/\Dc wr G (l.take k) xs/\(∀b,G b->w0.heap.size<=b/\b<wr.heap.size)/\(∀g,a.ownBlock=some g->w0.heap.size<=g/\¬G g)/\Chg w0 wr []
def cz(w0:Wl)(ks:List BY)(l:List Tr)(k:Nat)(a:Vl)(wr:Wl):Prop:=
 ∃xs G,Ba wr a 236 2 k (Kp (ks.take k) xs)/\Dc wr G (l.take k) xs/\(∀b,G b->w0.heap.size<=b/\b<wr.heap.size)/\(∀g,a.ownBlock=some g->w0.heap.size<=g/\¬G g)/\Chg w0 wr []
theorem Cb{a:Type}{l:List a}{k:Nat}{u:a}(h:l[k]? =some u):l.take (k+1)=l.take k++[u]:=by rw[List.take_add_one,h];rfl
theorem Dc.keptC{w w':Wl}{G H:Nat->Prop}{l:List Tr}{vs:List Vl}{bs:List Nat}(h:Dc w G l vs)(c:Chg w w' bs)(d:∀b,G b->b<w.heap.size)(e:∀b,b∈bs->¬G b)(a:∀b,G b->H b):Dc w' H l vs:=
 Dc.kept (c.keepsF d e) a l vs h
theorem T8.next{w0 wr d q:Wl}{l:List Tr}{k:Nat}{f A:Vl}{u:Tr}{xs:List Vl}{G r:Nat->Prop}{g n v:Nat}{o:Obj}(y:l[k]? =some u)(B:Dc wr G (l.take k) xs)(i:∀b,G b->w0.heap.size<=b/\b<wr.heap.size)(m:∀g,f.ownBlock=some g->w0.heap.size<=g/\¬G g)(w:Chg w0 wr [])(z:∀g,f.ownBlock=some g->g<wr.heap.size)(D:Hm d r u A)(t:Chg wr d [])(e:∀b,r b->wr.heap.size<=b/\b<d.heap.size)(E:AK q (.slice (some ⟨g,0,none⟩) n v) 144 (xs++[A]))(F:Chg (d.alloc o) q f.ownBlock.toList)(H:f.ownBlock=some g\/g=(d.alloc o).heap.size):
  T8 w0 l (k+1) (.slice (some ⟨g,0,none⟩) n v) q:=by
 have p:Chg d q f.ownBlock.toList:=((Chg.refl d []).alloc o|>.none _).trans F;have J:=w.size;have K:=t.size;have L:=p.size;refine⟨_,fun b=>G b\/r b,E, ?_, ?_, ?_, ?_⟩
 .rw[Cb y]
  refine Dc.snoc ?_ ?_
  .refine(B.keptC t (fun b a=>(i b a).2) Zh (fun _ h=>h)).keptC p (fun b a=>by have:=(i b a).2;omega) (fun b a s=>(m b (by simpa using a)).2 s) (fun _ h=> .inl h)
  .exact Hm.kept (p.keepsF (fun b a=>(e b a).2) (fun b a s=>by have:=z b (by simpa using a);have:=(e b s).1;omega)) (fun _ h=> .inr h) _ _ D
 .intro b a
  rcases a with a|a
  .have:=i b a;omega
  .have:=e b a;omega
 .intro I x
  simp[Vl.ownBlock]at x;subst x
  rcases H with h|h
  .refine⟨(m _ h).1,fun c=> ?_⟩
   rcases c with c|c
   .exact(m _ h).2 c
   .have:=z _ h;have:=(e _ c).1;omega
  .rw[World.size_alloc]at h
   refine⟨Zj,fun c=> ?_⟩
   rcases c with c|c
   .have:=(i _ c).2;omega
   .have:=(e _ c).2;omega
 .exact(w.trans t).step p fun j C y=>by have:=(m j (by simpa using C)).1;omega
theorem cz.next{w0 wr e v:Wl}{ks:List BY}{l:List Tr}{k:Nat}{n t:Vl}{u:Tr}{s:BY}{xs:List Vl}{G o:Nat->Prop}{g w:Nat}(q:l[k]? =some u)(B:ks[k]? =some s)(x:Dc wr G (l.take k) xs)(f:∀b,G b->w0.heap.size<=b/\b<wr.heap.size)(i:∀g,n.ownBlock=some g->w0.heap.size<=g/\¬G g)(y:Chg w0 wr [])(A:∀g,n.ownBlock=some g->g<wr.heap.size)(F:Hm e o u t)(r:Chg wr e [])(d:∀b,o b->wr.heap.size<=b/\b<e.heap.size)(H:Ba v (.slice (some ⟨g,0,none⟩) (k+1) w) 236 2 (k+1) (Kp (ks.take k) xs++[.string s,t]))(m:Chg e v n.ownBlock.toList)(I:n.ownBlock=some g\/e.heap.size<=g):
  cz w0 ks l (k+1) (.slice (some ⟨g,0,none⟩) (k+1) w) v:=by
 have M:=y.size;have N:=r.size;have O:=m.size
 have E:(ks.take k).length=xs.length:=by
  have C:=x.length;have J:=(Qc.1 q).1;have K:=(Qc.1 B).1;rw[C,Ql,Ql];omega
 refine⟨xs++[t],fun b=>G b\/o b, ?_, ?_, ?_, ?_, ?_⟩
 .rw[Cb B,Oj E];exact H
 .rw[Cb q]
  refine Dc.snoc ?_ ?_
  .refine(x.keptC r (fun b a=>(f b a).2) Zh (fun _ h=>h)).keptC m (fun b a=>by have:=(f b a).2;omega) (fun b a p=>(i b (by simpa using a)).2 p) (fun _ h=> .inl h)
  .exact Hm.kept (m.keepsF (fun b a=>(d b a).2) (fun b a p=>by have:=A b (by simpa using a);have:=(d b p).1;omega)) (fun _ h=> .inr h) _ _ F
 .intro b a
  rcases a with a|a
  .have:=f b a;omega
  .have:=d b a;omega
 .intro L z
  simp[Vl.ownBlock]at z;subst z
  rcases I with h|h
  .refine⟨(i _ h).1,fun c=> ?_⟩
   rcases c with c|c
   .exact(i _ h).2 c
   .have:=A _ h;have:=(d _ c).1;omega
  .refine⟨Zj,fun c=> ?_⟩
   rcases c with c|c
   .have:=(f _ c).2;omega
   .have:=(d _ c).2;omega
 .exact(y.trans r).step m fun j D q=>by have:=(i j (by simpa using D)).1;omega
theorem KM{P:Program}{h:Array Oper}{rest:List Oper}{o:Oper}{a:Act}{Q:Exit->Act->Wl->Prop}{w:Wl}(y:o.guard=none)(l c:Operand)(t:Ti)(F:o.op=Op.makeSlice t l c)(e:Ti)(z:Vl)(sz d:Nat)(I:P.underlying t=some (.slice e))(A:(P.info? e).map (fun i=>(i.zero,i.size,i.bytes))=some (some z,sz,d))(g f:IntKind)(C:Int)(n:Nat)(E:a.eval l= .int g 0)(x:a.eval c= .int f C)(r:C=(n:Int))(j:d*n<=281474976710656)(m:n<=maxLen)(B:Nat)(q:w.heap.size=B)(s:∀w',Ba w' (.slice (some ⟨B,0,none⟩) 0 n) e sz 0 []->Chg w w' []->wpList P h Q rest (a.put o.dst (.slice (some ⟨B,0,none⟩) 0 n)) w'):
  wpList P h Q (o::rest) a w:=by
 obtain⟨i,hi,J,H,v⟩:=info_parts A;subst r;subst v;subst q;obtain⟨w',G,p,b⟩:=run_make_own (P:=P) w 0 t e i z sz I hi J H g f n j m (Nat.zero_le _);refine wpList_plain y fun K u=> ?_
 unfold Oper.wp;simp only[execOp,F,E,x,G,Sem.run_bind,Result.andThen_ok,Sem.run_pure];exact u _ _ (s w' p ⟨b.os,b.tape,b.output,b.size,fun k D _=>b.block k D Zh⟩)
structure BP(w0:Wl)(bs:List Nat):Prop where
 nodup:bs.Nodup
 ge:∀b,b∈bs->w0.heap.size<=b
def SF(t:Tr)(w:Wl)(e:Ending)(w':Wl):Prop:=
 ∃v bs,e= .returned v/\AP w' t v bs/\BP w bs/\Chg w w' []
structure GD(w0 wr:Wl)(ex:List Nat)(l:List Tr)(sv:Vl)(vs:List Vl)(fs:List Nat):Prop where
 lst:AK wr sv 95 vs
 at_:PsAt wr l vs fs
 new:BP w0 (ex++(sv.ownBlock.toList++fs))
 lt:∀b,b∈ex->b<wr.heap.size
theorem BP.perm{w:Wl}{bs cs:List Nat}(h:BP w bs)(a:cs.Perm bs):BP w cs:=⟨a.nodup_iff.2 h.nodup,fun b c=>h.ge b (a.mem_iff.1 c)⟩
theorem BP.nil(w:Wl):BP w []:=⟨List.nodup_nil,fun _ h=>by cases h⟩
theorem BP.of_le{w w':Wl}{bs:List Nat}(h:BP w' bs)(c:w.heap.size<=w'.heap.size):BP w bs:=⟨h.nodup,fun b a=>Q7 c (h.ge b a)⟩
theorem BP.append{w d:Wl}{bs cs:List Nat}(h:BP w bs)(g:∀b,b∈bs->b<d.heap.size)(k:BP d cs)(i:w.heap.size<=d.heap.size):BP w (bs++cs):=
 ⟨List.nodup_append.2 ⟨h.nodup,k.nodup,fun a f b c e=>by have:=g a f;have:=k.ge b c;omega⟩,fun b c=>(Qf.1 c).elim (h.ge b) fun c=>Q7 i (k.ge b c)⟩
theorem BP.left{w:Wl}{bs cs:List Nat}(h:BP w (bs++cs)):BP w bs:=⟨(List.nodup_append.1 h.nodup).1,fun b a=>h.ge b (Qe _ a)⟩
theorem BP.right{w:Wl}{bs cs:List Nat}(h:BP w (bs++cs)):BP w cs:=⟨(List.nodup_append.1 h.nodup).2.1,fun b a=>h.ge b (Qd _ a)⟩
theorem BP.apart{w:Wl}{bs cs:List Nat}(h:BP w (bs++cs)):∀a,a∈bs->a∉cs:=fun a b c=>(List.nodup_append.1 h.nodup).2.2 a b a c rfl
theorem GD.kept{w0 wr j:Wl}{f:List Nat}{l:List Tr}{sv:Vl}{vs:List Vl}{a:List Nat}{cs:List Nat}(h:GD w0 wr f l sv vs a)(d:Chg wr j cs)(i:∀b,b∈cs->b∉sv.ownBlock.toList++a:=by simp):GD w0 j f l sv vs a:=
 ⟨h.lst.kept d (fun g k e=>i g e (Qe _ (by simpa using k))),h.at_.chg d (fun b c e=>i b c (Qd _ e)),h.new,fun b c=>Q6 (h.lt b c) d.size⟩
theorem GD.ltAll{w0 wr:Wl}{c:List Nat}{l:List Tr}{sv:Vl}{vs:List Vl}{d:List Nat}(h:GD w0 wr c l sv vs d):∀b,b∈c++(sv.ownBlock.toList++d)->b<wr.heap.size:=fun b a=>by
 rcases Qf.1 a with a|a
 .exact h.lt b a
 .rcases Qf.1 a with a|a
  .exact h.lst.ltB b a
  .exact PsAt.lt _ _ _ h.at_ b a
theorem GD.nil{w0 w:Wl}{a:List Nat}(h:BP w0 a)(c:∀b,b∈a->b<w.heap.size):GD w0 w a [] (.slice none 0 0) [] []:=⟨AK.nil _ _,⟨rfl,rfl⟩,by simpa[Vl.ownBlock]using h,c⟩
theorem GD.push{w0 wr k s:Wl}{f:List Nat}{l:List Tr}{u:Tr}{sv r:Vl}{vs:List Vl}{i d:List Nat}{g n t:Nat}(h:GD w0 wr f l sv vs i)(w:AP k u r d)(x:BP wr d)(p:Chg wr k [])(D:AK s (.slice (some ⟨g,0,none⟩) n t) 95 (vs++[r]))(q:Chg k s sv.ownBlock.toList)(o:sv.ownBlock=some g\/k.heap.size<=g)(C:w0.heap.size<=wr.heap.size):
  GD w0 s f (l++[u]) (.slice (some ⟨g,0,none⟩) n t) (vs++[r]) (i++d):=by
 have j:=h.ltAll;have y:=h.new.right.apart;have E:=p.size;refine⟨D, ?_, ?_,fun b c=>Q6 (h.lt b c) (Q7 p.size q.size)⟩
 .refine PsAt.snoc ((h.at_.chg p Zh).chg q y) (w.chg q fun b c A=> ?_)
  have:=j b (by simp only[Qf];exact .inr (.inl c));have:=x.ge b A;omega
 .have m:BP w0 (f++(sv.ownBlock.toList++i)++d):=h.new.append j x C
  rcases o with o|o
  .rw[o]at m
   simpa[Vl.ownBlock,List.append_assoc]using m
  .have z:∀b,b∈f++(i++d)->b<k.heap.size:=fun b c=>by
    rcases Qf.1 c with c|c
    .have:=h.lt b c;omega
    .rcases Qf.1 c with c|c
     .have:=j b (by simp only[Qf];exact .inr (.inr c));omega
     .exact AP.lt _ _ _ w b c
   have v:BP w0 (f++(i++d)):=by
    refine⟨m.nodup.sublist ?_,fun b c=>m.ge b (by simp only[Qf]at c|-;rcases c with h|h|h;exact .inl (.inl h);exact .inl (.inr (.inr h));exact .inr h)⟩;rw[List.append_assoc];refine List.Sublist.append_left ?_ f;rw[List.append_assoc];exact List.sublist_append_right _ _
   have B:BP w0 ([g]++(f++(i++d))):=by
    refine⟨List.nodup_append.2 ⟨Zh,v.nodup,fun a j b c e=> ?_⟩,fun b c=> ?_⟩
    .simp at j;subst j;subst e;have:=z a c;omega
    .rcases Qf.1 c with c|c
     .simp at c;subst c;omega
     .exact v.ge b c
   refine B.perm ?_;simp only[Vl.ownBlock,Option.toList_some];exact Ew _ _ _
def Aw.toI(s:Aw):Ap:=⟨s.sort,s.flag,s.bits,s.text,s.count,s.keys⟩
theorem Zy{l:List Tr}{u:Tr}(h:u∈l):(Ag u).nodes<=(Bk l).nodes/\(Ag u).bytes<=(Bk l).bytes/\(Ag u).depth<=(Bk l).depth:=by
 obtain⟨i,hi⟩:=List.mem_iff_getElem?.1 h;have:=(Kc hi u).1;rw[this];simp only[Sz.add];omega
theorem C8{t u:Tr}(h:(Ag t).within=true)(a:u∈Ab t):(Ag u).within=true:=by
 have b:=Ar h;have c:=Zy a;unfold Sz.within
 cases t with
 |list l=>simp only[Ab,Ag,Sz.over]at*;simp;omega
 |obj ks l=>simp only[Ab,Ag,Sz.over]at*;simp;omega
 |_=>simp[Ab]at a
theorem WY(t:Tr)(h:∀ks l,t= .obj ks l->ks.length=l.length):Hn (Aa t).toI=(Ab t).length:=by
 cases t<;>simp[Hn,Aa,Aw.toI,Ab]
 exact h _ _ rfl
theorem YC{t:Tr}(h:Av t):Kw (Aa t).toI=true:=by
 rw[CU]
 cases t with
 |num b=>
  simp only[Av]at h;refine⟨?_,fun _=>h.2.1, ?_,rfl,List.nodup_nil⟩
  .simp[Aa,Aw.toI,Bs,Dz]
  .show Utf.Al Dz=true;rfl
 |text s=>
  simp only[Av]at h;exact⟨by simp[Aa,Aw.toI,Bs],fun e=>by simp[Aa,Aw.toI]at e,h.1,rfl,List.nodup_nil⟩
 |obj ks l=>
  simp only[Av]at h;exact⟨by simp[Aa,Aw.toI,Bs,Dz],fun e=>by simp[Aa,Aw.toI]at e,rfl,List.all_eq_true.2 h.1.right,h.1.nodup⟩
 |list l=>exact⟨by simp[Aa,Aw.toI,Bs,Dz],fun e=>by simp[Aa,Aw.toI]at e,rfl,rfl,List.nodup_nil⟩
 |flag b=>exact⟨by simp[Aa,Aw.toI,Bs,Dz],fun e=>by simp[Aa,Aw.toI]at e,rfl,rfl,List.nodup_nil⟩
 |null=>exact⟨by simp[Aa,Aw.toI,Bs,Dz],fun e=>by simp[Aa,Aw.toI]at e,rfl,rfl,List.nodup_nil⟩
theorem U8{t:Tr}(h:Av t):CF (Aa t).toI (Ab t)=t:=by
 cases t with
 |num b=>simp only[Av]at h;simp[CF,Aa,Aw.toI,h.2.2]
 |obj ks l=>simp only[Av]at h;simp[CF,Aa,Aw.toI,Ab,h.1.objT h.2.1]
 |_=>simp[CF,Aa,Aw.toI,Ab]
theorem Av.keysLen{t:Tr}(h:Av t):∀ks l,t= .obj ks l->ks.length=l.length:=by
 intro ks l e;subst e;exact h.2.1
theorem Gp{t:Tr}(h:Av t)(f:(Ag t).within=true)(row:List Tr):DS (row++Ab t) [(Aa t).toI]=some (row++[t]):=by
 have a:=WY t h.keysLen
 have c:(row++Ab t).drop ((row++Ab t).length-Hn (Aa t).toI)=Ab t:=by
  rw[a,Qk,Nat.add_sub_cancel,List.drop_left]
 have e:(row++Ab t).take ((row++Ab t).length-Hn (Aa t).toI)=row:=by
  rw[a,Qk,Nat.add_sub_cancel,List.take_left]
 have b:AF (Aa t).toI (row++Ab t)=t:=by
  unfold AF;rw[c];exact U8 h
 have d:Ds (Aa t).toI (row++Ab t)=true:=by
  unfold Ds;rw[YC h,b,f,a];simp
 simp only[DS,d,if_true];unfold NW;rw[e,b]
theorem Il{row r:List Tr}{l m:List Ap}(h:DS row l=some r):DS row (l++m)=DS r m:=by
 induction l generalizing row with
 |nil=>simp[DS]at h;subst h;rfl
 |cons s l b=>
  simp only[Qo,DS]at h|-;split at h
  .rename_i a;rw[Qr a];exact b h
  .cases h
mutual
theorem OD:∀(t:Tr) (row:List Tr),Av t->(Ag t).within=true->DS row ((Ai t).map Aw.toI)=some (row++[t])
 | .null,row,h,hw=>by have:=Gp h hw row;simpa[Ai,Ab]using this
 | .flag b,row,h,hw=>by have:=Gp h hw row;simpa[Ai,Ab]using this
 | .num n,row,h,hw=>by have:=Gp h hw row;simpa[Ai,Ab]using this
 | .text s,row,h,hw=>by have:=Gp h hw row;simpa[Ai,Ab]using this
 | .list l,row,h,hw=>by
  simp only[Ai,List.map_append,List.map_cons,List.map_nil];rw[Il (Jr l row h.items fun u hu=>C8 (t:= .list l) hw hu)];exact Gp h hw row
 | .obj ks l,row,h,hw=>by
  simp only[Ai,List.map_append,List.map_cons,List.map_nil];rw[Il (Jr l row h.items fun u hu=>C8 (t:= .obj ks l) hw hu)];exact Gp h hw row
theorem Jr:∀(l:List Tr) (row:List Tr),(∀u∈l,Av u)->(∀u∈l,(Ag u).within=true)->DS row ((BI l).map Aw.toI)=some (row++l)
 |[],row,_,_=>by simp[BI,DS]
 |t::l,row,h,hw=>by
  simp only[BI,List.map_append];rw[Il (OD t row (h t Zh) (hw t Zh)),Jr l (row++[t]) (fun u hu=>h u (by simp[hu])) fun u hu=>hw u (by simp[hu])];simp
end
theorem FE{t:Tr}(h:Av t)(a:(Ag t).within=true):AS ((Ai t).map Aw.toI)=some t:=by
 unfold AS;rw[List.length_map,BL,Qr (Ar a).1];unfold CA;rw[OD t [] h a];rfl
theorem Ji{t:Tr}{s:BY}{i:Nat}{m:List Tr}(h:D6 t s=some i):Ab (AW t m)=m:=QX h
theorem Rs{t:Tr}{a s:BY}{j:Nat}{m:List Tr}(b:D6 t a=some j)(c:m.length=(Ab t).length):D6 (AW t m) s=D6 t s:=by
 rcases IA b with⟨l,rfl⟩|⟨ks,l,rfl⟩
 .simp only[AW,D6,Ab]at*;rw[c]
 .rfl
theorem V4{t:Tr}{s:BY}{i:Nat}(h:D6 t s=some i){u:Tr}(a:(Ab t)[i]? =some u):AW t ((Ab t).set i u)=t:=by
 obtain⟨hi,rfl⟩:=Qc.1 a;rw[List.set_getElem_self]
 rcases IA h with⟨l,rfl⟩|⟨ks,l,rfl⟩<;>rfl
theorem V5{t:Tr}(m n:List Tr):AW (AW t m) n=AW t n:=by cases t<;>rfl
theorem Mf{f:Tr->Tr}{ts:List BY}:∀{t p:Tr},Ah t ts=some p->Ah (Bz f t ts) ts=some (f p):=by
 induction ts with
 |nil=>intro t p h;simp only[Ah]at h;injection h with h;subst h;rfl
 |cons s r d=>
  intro t p h;obtain⟨i,v,a,b,c⟩:=CC h;have hi:=(Qc.1 b).1;rw[BF a b];simp only[Ah,Dy];rw[Rs a (by rw[List.length_set]),a,Ji a];simp only[Option.bind_some];rw[List.getElem?_set_self hi];exact d c
theorem Yy{f g:Tr->Tr}{ts:List BY}:∀{t p:Tr},Ah t ts=some p->Bz g (Bz f t ts) ts=Bz (fun u=>g (f u)) t ts:=by
 induction ts with
 |nil=>intro t p h;rfl
 |cons s r j=>
  intro t p h;obtain⟨i,v,a,b,e⟩:=CC h;have hi:=(Qc.1 b).1;have c:D6 (AW t ((Ab t).set i (Bz f v r))) s=some i:=by rw[Rs a (by rw[List.length_set]),a]
  have d:(Ab (AW t ((Ab t).set i (Bz f v r))))[i]? =some (Bz f v r):=by rw[Ji a,List.getElem?_set_self hi]
  rw[BF a b,BF c d,BF a b,Ji a,V5,List.set_set,j e]
theorem WX{f:Tr->Tr}{ts:List BY}:∀{t p:Tr},Ah t ts=some p->f p=p->Bz f t ts=t:=by
 induction ts with
 |nil=>intro t p h a;simp only[Ah]at h;injection h with h;subst h;exact a
 |cons s r e=>
  intro t p h a;obtain⟨i,v,b,c,d⟩:=CC h;rw[BF b c,e d a,V4 b c]
theorem Mk{f g:Tr->Tr}{ts:List BY}{t p:Tr}(h:Ah t ts=some p)(a:g (f p)=p):Bz g (Bz f t ts) ts=t:=by
 rw[Yy h];exact WX h a
theorem L2{ks:List BY}{s:BY}(h:s∉ks):C4 ks s=false:=by
 cases g:C4 ks s with
 |false=>rfl
 |true=>exact absurd (Cp.1 g) h
theorem Tn:D5 IN.data.toList=none:=ZM
theorem WE(n:Nat):bL IN n=none:=by unfold bL;rw[Tn]
theorem OZ(k:Nat):(⟨(Go.Lib.decDigits k).toArray⟩:BY).data.toList=Go.Lib.decDigits k:=rfl
theorem SY{k n:Nat}(h:k<n):bL ⟨(Go.Lib.decDigits k).toArray⟩ n=some k:=GN.2 ⟨OZ k,h⟩
theorem Pb{ks:List BY}(h:Cy ks)(s:BY):∃i,i<=ks.length/\(∀t k,t<i->ks[t]? =some k->Utf.BK k s<0)/\(∀t k,i<=t->ks[t]? =some k->0<=Utf.BK k s):=by
  refine⟨(ks.takeWhile fun k=>decide (Utf.BK k s<0)).length,(List.takeWhile_prefix _).length_le, ?_, ?_⟩
  .intro t k f a
   have v:=List.takeWhile_prefix (l:=ks) fun k=>decide (Utf.BK k s<0)
   have:(ks.takeWhile fun k=>decide (Utf.BK k s<0))[t]? =some k:=by
    obtain⟨r,w⟩:=v;rw[<-w,List.getElem?_append_left f]at a;exact a
   have:=mem_tw' (Qi this);simpa using this
  .intro t k f a
   have d:=List.takeWhile_append_dropWhile (p:=fun k=>decide (Utf.BK k s<0)) (l:=ks)
   generalize y:(ks.takeWhile fun k=>decide (Utf.BK k s<0))=A at d f
   cases g:(ks.dropWhile fun k=>decide (Utf.BK k s<0))with
   |nil=>
    rw[g,List.append_nil]at d;have:=(Qc.1 a).1;rw[d]at f;omega
   |cons b B=>
    rw[g]at d
    have u:¬Utf.BK b s<0:=by
     have:(ks.dropWhile fun k=>decide (Utf.BK k s<0)).head? =some b:=by rw[g];rfl
     have:=dw_head this;simpa using this
    have n:ks[A.length]? =some b:=by rw[<-d,List.getElem?_append_right (Q8 _),Nat.sub_self];rfl
    by_cases e:t=A.length
    .subst e;rw[n]at a;injection a with a;subst a;omega
    .have o:=h.lt n a Zj
     by_cases q:Utf.BK k s<0
     .exact absurd (Utf.Ev o q) u
     .omega
 where
  mem_tw' {p:BY->Bool} {l:List BY} {x:BY} (h:x∈l.takeWhile p):p x=true:=by
   induction l with
   |nil=>cases h
   |cons c l m=>
    rw[List.takeWhile_cons]at h;split at h
    .rename_i j
     rcases Qh.1 h with rfl|h
     .exact j
     .exact m h
    .cases h
  dw_head {p:BY->Bool} {l:List BY} {x:BY} (h:(l.dropWhile p).head? =some x):p x=false:=by
   induction l with
   |nil=>cases h
   |cons c l m=>
    rw[List.dropWhile_cons]at h;split at h
    .exact m h
    .rename_i j;simp at h;subst h;simpa using j
theorem Pp{ks:List BY}{s:BY}{i:Nat}(b:s∉ks)(hi:i<=ks.length):A5 (ks.insertIdx i s) s=i:=by
 unfold A5;rw[AQ ks i hi,List.findIdx_append]
 have a:(ks.take i).findIdx (fun t=>decide (t=s))=i:=by
  have e:(ks.take i).length=i:=by rw[Ql];omega
  conv=>rhs;rw[<-e]
  refine List.findIdx_eq_length.2 fun x c=> ?_
  simp only[decide_eq_false_iff_not];intro e;subst e;exact b (List.mem_of_mem_take c)
 have e:(ks.take i).length=i:=by rw[Ql];omega
 rw[a,Qs Zj,List.findIdx_cons];simp[e]
theorem bE{ks:List BY}{s:BY}{i:Nat}(hi:i<=ks.length):s∈ks.insertIdx i s:=by
 rw[AQ ks i hi];simp
theorem GL{a:Type}(l:List a)(i:Nat)(h:i<=l.length)(x:a):(l.insertIdx i x).eraseIdx i=l:=by
 have e:(l.take i).length=i:=by rw[Ql];omega
 rw[C6,AQ l i h,List.take_append,List.drop_append,e];simp[Qn (Nat.le_of_eq e),List.drop_of_length_le (show(l.take i).length<=i+1 by omega)]
theorem GQ{a:Type}{l:List a}{i:Nat}{x:a}(h:l[i]? =some x):(l.eraseIdx i).insertIdx i x=l:=by
 have hi:=(Qc.1 h).1;have e:(l.take i).length=i:=by rw[Ql];omega
 have b:i<=(l.eraseIdx i).length:=by rw[List.length_eraseIdx];split<;>omega
 rw[AQ _ i b,C6,List.take_append,List.drop_append,e];simp only[Nat.sub_self,List.take_zero,List.append_nil,List.drop_zero];rw[Qn (Nat.le_of_eq e),List.drop_of_length_le (Nat.le_of_eq e),List.nil_append];exact(CZ h x).1.symm
theorem Yl{s:BY}{x p:Tr}(h:Av p)(a:Gg s p=0)(r:∀ks l,p= .obj ks l->C4 ks s=false):
  Dy (Cj s x p) (Eo s p)=some x/\CT (Eo s p) (Cj s x p)=p:=by
 cases p with
 |list l=>
  simp only[Cj,Eo];by_cases e:s=IN
  .rw[Qr e,Qr e]
   have b:D6 (.list (l++[x])) ⟨(Go.Lib.decDigits l.length).toArray⟩=some l.length:=by
    simp only[D6,Qk,Qj,List.length_nil];exact SY Zj
   refine⟨?_, ?_⟩
   .unfold Dy;rw[b];simp[Ab]
   .unfold CT;rw[b]
    simp only;rw[C6];simp
  .rw[Qs e,Qs e]
   simp only[Gg,Qs e]at a
   cases hi:bL s (l.length+1)with
   |none=>
    exfalso
    unfold bL at hi
    cases d:D5 s.data.toList with
    |none=>rw[d]at a;simp at a
    |some k=>
     rw[d]at hi a;simp only at hi a;split at hi
     .cases hi
     .rename_i j;rw[Qs j]at a;cases a
   |some i=>
    have j:=Jf hi;have c:i<=l.length:=Zj
    have b:D6 (.list (l.insertIdx i x)) s=some i:=by
     simp only[D6];rw[List.length_insertIdx,Qr c];exact hi
    simp only;refine⟨?_, ?_⟩
    .unfold Dy;rw[b]
     simp only[Option.bind_some,Ab];rw[AQ l i c,List.getElem?_append_right (by rw[Ql];omega),Ql,Nat.min_eq_left c,Nat.sub_self];rfl
    .unfold CT;rw[b]
     simp only;rw[GL l i c]
 |obj ks l=>
  have d:=r ks l rfl;simp only[Av]at h;obtain⟨f,n,_⟩:=h;have m:s∉ks:=fun g=>by rw[Cp.2 g]at d;cases d
  obtain⟨i,hi,q,o⟩:=Pb f s;simp only[Cj,Eo];rw[Qs (by rw[d];simp),If f n m hi q o]
  have b:D6 (.obj (ks.insertIdx i s) (l.insertIdx i x)) s=some i:=by
   simp only[D6];rw[Qr (Cp.2 (bE hi)),Pp m hi]
  refine⟨?_, ?_⟩
  .unfold Dy;rw[b]
   have c:i<=l.length:=Zj
   simp only[Option.bind_some,Ab];rw[AQ l i c,List.getElem?_append_right (by rw[Ql];omega),Ql,Nat.min_eq_left c,Nat.sub_self];rfl
  .unfold CT;rw[b]
   simp only;rw[GL ks i hi,GL l i Zj]
 |_=>simp[Gg]at a
theorem Yj{s:BY}{u p:Tr}(q:Av p)(b:Dy p s=some u):Gg s (CT s p)=0/\Cj s u (CT s p)=p/\(∀ks l,CT s p= .obj ks l->C4 ks s=false):=by
 obtain⟨i,a,f⟩:=Km b
 cases p with
 |list l=>
  simp only[Ab]at f;simp only[D6]at a;have hi:=(Qc.1 f).1;have x:(l.eraseIdx i).length+1=l.length:=by rw[List.length_eraseIdx,Qr hi];omega
  have o:s≠IN:=fun e=>by subst e;rw[WE]at a;cases a
  have h:CT s (.list l)= .list (l.eraseIdx i):=by unfold CT;simp only[D6,a]
  obtain⟨A,D⟩:=GN.1 a;rw[h];refine⟨?_, ?_,fun ks l e=>by cases e⟩
  .simp only[Gg,Qs o,Gi.2 A]
   rw[Qr Zj]
  .simp only[Cj,Qs o]
   rw[x,a];simp only;rw[GQ f]
 |obj ks l=>
  simp only[Ab]at f;simp only[Av]at q;obtain⟨g,w,_⟩:=q;simp only[D6]at a;split at a
  .rename_i r
   injection a with a
   have z:=Cp.1 r;have d:ks[i]? =some s:=by rw[<-a];exact Gk z
   have hi:=(Qc.1 d).1;have h:CT s (.obj ks l)= .obj (ks.eraseIdx i) (l.eraseIdx i):=by unfold CT;simp only[D6,Qr r,a]
   have m:s∉ks.eraseIdx i:=by
    intro c;have j:=g.nodup;rw[(CZ d s).1,List.nodup_append]at j;rw[C6]at c
    rcases Qf.1 c with c|c
    .exact j.2.2 s c s Zh rfl
    .exact(List.nodup_cons.1 j.2.1).1 c
   have C:(ks.eraseIdx i).length+1=ks.length:=by rw[List.length_eraseIdx,Qr hi];omega
   rw[h];refine⟨rfl, ?_,fun E F e=>by injection e with v B;subst v;exact L2 m⟩;simp only[Cj];rw[Qs (by rw[L2 m];simp)];have y:(ks.eraseIdx i).length=(l.eraseIdx i).length:=by rw[List.length_eraseIdx,List.length_eraseIdx,w]
   rw[If (i:=i) (g.erase i) y m Zj ?_ ?_,GQ d,GQ f]
   .intro t k n b
    rw[List.getElem?_eraseIdx,Qr n]at b;exact g.lt b d n
   .intro t k n b
    rw[List.getElem?_eraseIdx,Qs Zj]at b;have:=g.lt d b Zj;rw[Utf.Ej s k];omega
  .cases a
 |_=>simp[D6]at a
theorem YR{ks:List BY}{l:List Tr}{s:BY}{x:Tr}(f:ks.length=l.length)(a:C4 ks s=true):
  Dy (Cj s x (.obj ks l)) s=some x/\Bz (fun _=>l.getD (A5 ks s) .null) (Cj s x (.obj ks l)) [s]= .obj ks l:=by
 have e:=Cp.1 a;have g:=Dk e;have b:A5 ks s<l.length:=Zj
 simp only[Cj,Qr a];have c:D6 (.obj ks (l.set (A5 ks s) x)) s=some (A5 ks s):=by simp only[D6,Qr a]
 have d:(Ab (.obj ks (l.set (A5 ks s) x)))[A5 ks s]? =some x:=by simp only[Ab];exact List.getElem?_set_self b
 refine⟨by unfold Dy;rw[c];exact d, ?_⟩;rw[BF c d];simp only[Bz,AW,Ab,List.set_set];rw[List.getD_eq_getElem?_getD,Q9 b,Option.getD_some,List.set_getElem_self]
structure ZL(o:Bq):Prop where
 path:o.path.size<=2147483648
 frm:o.frm.size<=2147483648
 steps:∀s∈o.steps,Di s
structure Bt(t:Tr):Prop where
 good:Av t
 fits:(Ag t).within=true
theorem FD{l:List Ap}(a:∀s∈l,Di s){t:Tr}(h:AS l=some t):Bt t:=by
 unfold AS at h;split at h
 .rename_i b
  refine⟨SW a b h, ?_⟩;unfold CA at h;split at h
  .rename_i r c
   injection h with h
   subst h;exact(Jq (row:=[]) (fun t d=>by cases d) c).1 _ Zh
  .cases h
 .cases h
theorem Bt.lead{ts:List BY}:∀{t u:Tr},Bt t->Ah t ts=some u->Bt u:=by
 induction ts with
 |nil=>intro t u h a;simp only[Ah]at a;injection a with a;exact a▸h
 |cons s r e=>
  intro t u h a;obtain⟨i,v,f,c,d⟩:=CC a;have b:=Qi c;exact e ⟨h.good.items v b,C8 h.fits b⟩ d
theorem Bt.many{t:Tr}(h:Bt t):(Ab t).length<65536:=Q6 (Bj t) (Ar h.fits).1
structure DR(ts:List BY):Prop where
 right:∀s∈ts,Utf.Al s=true
 small:∀s∈ts,s.size<=2147483648
 many:ts.length<=65536
theorem PK{s:BY}{ts:List BY}(h:AD s=some ts)(a:s.size<=2147483648):DR ts:=
 ⟨Pn h,fun t b=>Q7 (Lf h t b) a,NK h⟩
theorem Re{ts:List BY}(h:ts≠[]):AH ts∈ts:=by
 have a:AH ts∈ts.dropLast++[AH ts]:=Zh
 rwa[CL ts h]at a
theorem DR.last{ts:List BY}(h:DR ts)(a:ts≠[]):Utf.Al (AH ts)=true/\(AH ts).size<=2147483648:=⟨h.right _ (Re a),h.small _ (Re a)⟩
theorem Ol{t:Tr}{ts:List BY}(b:ts≠[])(h:EN t ts=0):∃p,Ah t ts.dropLast=some p/\Gg (AH ts) p=0:=by
 unfold EN at h;rw[Qs b]at h
 cases a:Ah t ts.dropLast with
 |none=>rw[a]at h;cases h
 |some p=>rw[a]at h;exact⟨p,rfl,h⟩
theorem Bt.add{t x:Tr}{ts:List BY}(h:Bt t)(d:Bt x)(j:DR ts)(f:EN t ts=0)(e:(Ag (At t ts x)).within=true):Bt (At t ts x):=by
 refine⟨?_,e⟩;unfold At;by_cases a:ts=[]
 .rw[Qr a];exact d.good
 .rw[Qs a]
  obtain⟨p,b,k⟩:=Ol a f;have c:=h.lead b;obtain⟨g,i⟩:=j.last a;exact h.good.mod b (c.good.add d.good g i c.many)
theorem Bt.set{t x u:Tr}{ts:List BY}(h:Bt t)(c:Bt x)(b:Ah t ts=some u)(a:(Ag (AE t ts x)).within=true):Bt (AE t ts x):=
 ⟨h.good.mod b c.good,a⟩
theorem QC{s:BY}{p u:Tr}(m:Av p)(h:Dy p s=some u):(Ag (CT s p)).nodes+(Ag u).nodes=(Ag p).nodes/\(Ag (CT s p)).bytes<=(Ag p).bytes/\(Ag (CT s p)).depth<=(Ag p).depth/\
  (∀b,(b=match p with| .obj _ _=>s.size|_=>0)->(Ag (CT s p)).bytes+(Ag u).bytes+b=(Ag p).bytes):=by
 obtain⟨i,a,c⟩:=Km h
 cases p with
 |list l=>
  simp only[Ab]at c;have f:CT s (.list l)= .list (l.eraseIdx i):=by unfold CT;rw[a]
  rw[f];have d:=(Kc c u).1;simp only[Ag,d,Sz.add,Sz.over];refine⟨Zj,Zj,Zj,fun b e=>by subst e;omega⟩
 |obj ks l=>
  simp only[Ab]at c;have f:CT s (.obj ks l)= .obj (ks.eraseIdx i) (l.eraseIdx i):=by unfold CT;rw[a]
  rw[f];have d:=(Kc c u).1
  have k:ks[i]? =some s:=by
   simp only[D6]at a;split at a
   .rename_i j;injection a with a;rw[<-a];exact Gk (Cp.1 j)
   .cases a
  have g:=IW k;simp only[Ag,d,g,Sz.add,Sz.over];refine⟨Zj,Zj,Zj,fun b e=>by subst e;omega⟩
 |_=>simp[D6]at a
theorem WO{f:Tr->Tr}{ts:List BY}:∀{t p:Tr},Ah t ts=some p->(Ag (f p)).nodes<=(Ag p).nodes->(Ag (f p)).bytes<=(Ag p).bytes->(Ag (f p)).depth<=(Ag p).depth->
  (Ag (Bz f t ts)).nodes<=(Ag t).nodes/\(Ag (Bz f t ts)).bytes<=(Ag t).bytes/\(Ag (Bz f t ts)).depth<=(Ag t).depth:=by
 induction ts with
 |nil=>intro t p h a b c;simp only[Ah]at h;injection h with h;subst h;exact⟨a,b,c⟩
 |cons s r m=>
  intro t p h a b c;obtain⟨i,v,g,j,k⟩:=CC h;obtain⟨n,o,q⟩:=m k a b c;rw[BF g j];obtain⟨d,e⟩:=Kc j (Bz f v r)
  rcases IA g with⟨l,rfl⟩|⟨ks,l,rfl⟩
  .simp only[AW,Ab,Ag]at*
   rw[d,e];simp only[Sz.add,Sz.over];omega
  .simp only[AW,Ab,Ag]at*
   rw[d,e];simp only[Sz.add,Sz.over];omega
theorem Jj{t u:Tr}{ts:List BY}(b:ts≠[])(h:Ah t ts=some u):∃p,Ah t ts.dropLast=some p/\Dy p (AH ts)=some u:=by
 rw[<-CL ts b,BW]at h
 cases a:Ah t ts.dropLast with
 |none=>rw[a]at h;cases h
 |some p=>rw[a]at h;exact⟨p,rfl,by simpa using h⟩
theorem Bt.cut{t u:Tr}{ts:List BY}(h:Bt t)(i:ts≠[])(g:Ah t ts=some u):Bt (A8 t ts):=by
 obtain⟨p,a,e⟩:=Jj i g;have b:=h.lead a;obtain⟨j,c,d,_⟩:=QC b.good e;obtain⟨k,l,m⟩:=WO (f:=CT (AH ts)) a Zj c d;have:=Ar h.fits;refine⟨h.good.mod a b.good.cut, ?_⟩;unfold A8 Sz.within;simp;omega
theorem Ib{t a:Tr}{u v:List CW}(h:Kj t u= .yes a v):a=t/\v=u/\(Ag t).within=true:=by
 unfold Kj at h;split at h
 .injection h with b c;exact⟨b.symm,c.symm,by assumption⟩
 .cases h
theorem Fd{t a x:Tr}{ts:List BY}{m v:List CW}(h:Ga t ts x m= .yes a v):EN t ts=0/\a=At t ts x/\v=Dd t ts::m/\(Ag (At t ts x)).within=true:=by
 unfold Ga at h;split at h
 .cases h
 .rename_i b
  obtain⟨c,d,e⟩:=Ib h;exact⟨by simpa using b,c,d,e⟩
theorem Jb{a:BY}{ts:List BY}(h:AD a=some ts)(b:EV a ⟨#[]⟩=false):ts=[]:=by
 cases ts with
 |nil=>rfl
 |cons t l=>
  have:=JZ h;have c:a.data.toList=47::(esc t.data.toList++Bl (l.map fun t=>t.data.toList)):=by rw[<-this];rfl
  unfold EV at b;rw[c]at b;simp at b
theorem D7{ts:List BY}{a:BY}(h:AD a=some ts):ts=[]↔a=⟨#[]⟩:=by
 constructor
 .intro e;subst e;rw[<-JZ h];rfl
 .intro e;subst e
  have:AD ⟨#[]⟩=some []:=by
   have:=FT (ts:=[]) (fun t b=>by cases b) Zh;exact this
  rw[this]at h;injection h with h;exact h.symm
theorem LX{t z:Tr}{o:Bq}{v:List CW}(h:Bt t)(q:ZL o)(a:Gz t o= .yes z v):Bt z:=by
 unfold Gz at a;split at a
 .cases a
 .rename_i c
  have c:Bn o=0:=by simpa using c
  unfold Bn at c;split at c
  .cases c
  .rename_i B
   split at c
   .cases c
   .rename_i j
    split at c
    .cases c
    .rename_i y
     simp only[not_or,not_and]at B j y;obtain⟨n,k⟩:=Option.ne_none_iff_exists'.1 j.1;have m:=PK k q.path;rw[k,Option.getD_some]at a
     have p:AN o.kind=true->Bt ((AS o.steps).getD .null):=by
      intro C;have:=y C
      cases r:AS o.steps with
      |none=>rw[r]at this;simp at this
      |some x=>exact FD q.steps r
     unfold Da at a;split at a
     .rename_i D
      obtain⟨g,rfl,_,d⟩:=Fd a;exact h.add (p (by rw[D];rfl)) m g d
     .split at a
      .split at a
       .cases a
       .rename_i l
        cases b:Ah t n with
        |none=>rw[b]at a;cases a
        |some u=>rw[b]at a;injection a with a _;subst a;exact h.cut l b
      .split at a
       .rename_i E
        cases b:Ah t n with
        |none=>rw[b]at a;cases a
        |some u=>
         rw[b]at a;obtain⟨rfl,_,d⟩:=Ib a;exact h.set (p (by rw[E];rfl)) b d
       .split at a
        .rename_i F
         split at a
         .cases a
         .rename_i s
          cases f:AD o.frm with
          |none=>exact absurd f (j.2 (by rw[F];rfl))
          |some i=>
           rw[f,Option.getD_some]at a
           cases b:Ah t i with
           |none=>rw[b]at a;cases a
           |some u=>
            rw[b]at a;simp only at a;split at a
            .injection a with a _;subst a;exact h
            .rename_i w
             obtain⟨g,rfl,_,d⟩:=Fd a
             have l:i≠[]:=by
              intro e;subst e;have A:=(D7 f).1 rfl;rw[A]at s w;have:=Jb k (by simpa using s);exact w ((D7 k).1 this)
             exact(h.cut l b).add (h.lead b) m g d
        .split at a
         .rename_i G
          cases f:AD o.frm with
          |none=>exact absurd f (j.2 (by rw[G];rfl))
          |some i=>
           rw[f,Option.getD_some]at a
           cases b:Ah t i with
           |none=>rw[b]at a;cases a
           |some u=>
            rw[b]at a;obtain⟨g,rfl,_,d⟩:=Fd a;exact h.add (h.lead b) m g d
         .cases b:Ah t n with
          |none=>rw[b]at a;cases a
          |some u=>
           rw[b]at a;simp only at a;split at a
           .injection a with a _;subst a;exact h
           .cases a
theorem Td{t p:Tr}{ts:List BY}(h:Ah t ts=some p):ts.length+(Ag p).depth<=(Ag t).depth:=by
 have g:=Eg.mod (f:=fun u=>u) h (Eg.here (Ag p) (Ag p));rw[WX h rfl]at g;have:=g.low;omega
def NC(p:Tr)(s:BY):Nat:=match p with
 | .obj _ _=>s.size
 |_=>0
theorem MR{t x p:Tr}{ts:List BY}(h:Bt t)(d:ts≠[])(a:Ah t ts.dropLast=some p)(i:Gg (AH ts) p=0)(j:∀ks l,p= .obj ks l->C4 ks (AH ts)=false):
  (Ag (At t ts x)).nodes=(Ag t).nodes+(Ag x).nodes/\(Ag (At t ts x)).bytes=(Ag t).bytes+(Ag x).bytes+NC p (AH ts)/\
  (Ag (At t ts x)).within=(decide ((Ag t).nodes+(Ag x).nodes<=65536)&&decide ((Ag t).bytes+(Ag x).bytes+NC p (AH ts)<=2097152)&&decide (ts.length+(Ag x).depth<=512)):=by
 have e:At t ts x=Bz (Cj (AH ts) x) t ts.dropLast:=by unfold At;rw[Qs d]
 have k:=h.lead a;obtain⟨m,n,o,q⟩:=VA (x:=x) k.good i j (NC p (AH ts)) (by unfold NC;cases p<;>rfl);have g:=Eg.mod (f:=Cj (AH ts) x) a (Eg.here (Ag p) (Ag (Cj (AH ts) x p)));rw[<-e]at g;have r:=Td a;have u:=Ar h.fits;have s:ts.dropLast.length+1=ts.length:=by have:=List.length_pos_iff.2 d;simp;omega
 have v:=g.nodes;have w:=g.bytes;have y:=g.up;have z:=g.low;have b:(Ag (At t ts x)).nodes=(Ag t).nodes+(Ag x).nodes:=Zj
 have c:(Ag (At t ts x)).bytes=(Ag t).bytes+(Ag x).bytes+NC p (AH ts):=Zj
 refine⟨b,c, ?_⟩;unfold Sz.within;rw[b,c]
 congr 1
 rw[decide_eq_decide];omega
theorem J4{t x u:Tr}{ts:List BY}(h:Bt t)(a:Ah t ts=some u):
  (Ag (AE t ts x)).nodes+(Ag u).nodes=(Ag t).nodes+(Ag x).nodes/\(Ag (AE t ts x)).bytes+(Ag u).bytes=(Ag t).bytes+(Ag x).bytes/\
  (Ag (AE t ts x)).within=(decide ((Ag t).nodes+(Ag x).nodes-(Ag u).nodes<=65536)&&decide ((Ag t).bytes+(Ag x).bytes-(Ag u).bytes<=2097152)&&decide (ts.length+(Ag x).depth<=512)):=by
 have g:=XM (x:=x) a;exact⟨g.nodes,g.bytes,PM g h.fits⟩
theorem R9{t u p:Tr}{ts:List BY}(h:Bt t)(i:ts≠[])(e:Ah t ts=some u)(b:Ah t ts.dropLast=some p):
  (Ag (A8 t ts)).nodes+(Ag u).nodes=(Ag t).nodes/\(Ag (A8 t ts)).bytes+(Ag u).bytes+NC p (AH ts)=(Ag t).bytes:=by
 obtain⟨m,a,d⟩:=Jj i e
 rw[b]at a;injection a with a;subst a
 have j:=h.lead b;obtain⟨c1,_,_,c⟩:=QC j.good d;have c:=c (NC p (AH ts)) (by unfold NC;cases p<;>rfl);have g:=Eg.mod (f:=CT (AH ts)) b (Eg.here (Ag p) (Ag (CT (AH ts) p)));have k:=g.nodes;have l:=g.bytes;unfold A8;omega
theorem T9{t x:Tr}{ts:List BY}{ks:List BY}{l:List Tr}(h:Bt t)(b:ts≠[])(a:Ah t ts.dropLast=some (.obj ks l))(d:C4 ks (AH ts)=true):
  At t ts x=AE t ts x/\Ah t ts=some (l.getD (A5 ks (AH ts)) .null)/\Dd t ts=⟨3,A6 ts,Dz,Ai (l.getD (A5 ks (AH ts)) .null)⟩:=by
 have w:ks.length=l.length:=(h.lead a).good.2.1;have y:=Dk (Cp.1 d);have k:A5 ks (AH ts)<l.length:=Zj
 have m:D6 (.obj ks l) (AH ts)=some (A5 ks (AH ts)):=by simp only[D6,Qr d]
 have hi:(Ab (.obj ks l))[A5 ks (AH ts)]? =some (l[A5 ks (AH ts)]'k):=Q9 k;refine⟨?_, ?_, ?_⟩
 .unfold At AE
  rw[Qs b]
  have e:Bz (fun _=>x) t (ts.dropLast++[AH ts])=Bz (Cj (AH ts) x) t ts.dropLast:=by
   rw[Gh]
   have p:∀(f g:Tr->Tr) (c:List BY) (t:Tr),Ah t c=some (.obj ks l)->f (.obj ks l)=g (.obj ks l)->Bz f t c=Bz g t c:=by
    intro f g c
    induction c with
    |nil=>intro t a j;simp only[Ah]at a;injection a with a;subst a;exact j
    |cons s r q=>
     intro t a j;obtain⟨i,v,n,o,u⟩:=CC a;rw[BF n o,BF n o,q v u j]
   refine p _ _ _ _ a ?_;rw[BF m hi];simp only[Cj,Qr d,Bz,AW,Ab]
  rw[CL ts b]at e;exact e.symm
 .have e:Ah t (ts.dropLast++[AH ts])=some (l.getD (A5 ks (AH ts)) .null):=by
   rw[BW,a];simp only[Option.bind_some,Dy,m,hi];rw[List.getD_eq_getElem?_getD,Q9 k];rfl
  rwa[CL ts b]at e
 .unfold Dd
  rw[Qs b,a];simp only[Option.getD_some,GF];rw[Qr d,CL ts b]
end
end Go.Proofs.YtkfnkppdhcaeoaaGreatDoor

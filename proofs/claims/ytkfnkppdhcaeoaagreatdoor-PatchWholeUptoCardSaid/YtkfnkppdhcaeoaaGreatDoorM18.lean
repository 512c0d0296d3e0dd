/- Part 18 of the proof of patchJoined_card. -/
import Derived.Test.YtkfnkppdhcaeoaaGreatDoorM17
set_option maxRecDepth 100000
set_option maxHeartbeats 32000000
set_option linter.unusedSimpArgs false
set_option linter.unusedVariables false
set_option linter.unnecessarySimpa false
namespace Go.Proofs.YtkfnkppdhcaeoaaGreatDoor
open Go renaming Calls->Cl,Value->Vl,World->Wl
section
open Go Go.RowKit Tree Ptr
def CW.toI(r:CW):Bq:=⟨r.kind,r.path,r.frm,r.steps.map Aw.toI⟩
theorem Pv{l:List UInt8}(h:∀c∈l,c.toNat<128):CY l=true:=by
 induction l with
 |nil=>rfl
 |cons c l b=>rw[EQ _ _ (h c (by simp))];exact b fun x a=>h x (by simp[a])
theorem O0(k:Nat):Utf.Al ⟨(Go.Lib.decDigits k).toArray⟩=true:=by
 rw[E8];refine Pv fun c a=> ?_
 have:=List.all_eq_true.1 (DV k).2.1 c a;simp[Fi]at this;omega
theorem IX(n:Nat):∀k,k<10^n->(Go.Lib.decDigits k).length<=n\/n=0:=by
 induction n with
 |zero=>intro k _;exact .inr rfl
 |succ n c=>
  intro k b
  left
  by_cases h:k<10
  .rw[(DV k).2.2.2.2 h];omega
  .rw[Go.Lib.decDigits,dif_neg h,Qk]
   have:k/10<10^n:=by rw[Nat.pow_succ]at b;omega
   rcases c (k/10) this with a|a
   .simp;omega
   .subst a;simp at b;omega
theorem Wj{o:Bq}{ts:List BY}(g:1<=o.kind/\o.kind<=6)(d:AO o.kind=false)(e:AD o.path=some ts)(f:AN o.kind=true->(AS o.steps).isSome=true):Bn o=0:=by
 unfold Bn;rw[Qs (by omega),Qs (by rw[e,d];simp),Qs];rintro⟨a,b⟩;have:=f a;cases c:AS o.steps<;>simp[c]at this b
theorem Gd{t:Tr}{o:Bq}{ts:List BY}(c:1<=o.kind/\o.kind<=6)(b:AO o.kind=false)(a:AD o.path=some ts)(d:AN o.kind=true->(AS o.steps).isSome=true):
  Gz t o=Da t o ts ((AD o.frm).getD []) ((AS o.steps).getD .null):=by
 unfold Gz;rw[Qs (by rw[Wj c b a d];simp),a];rfl
theorem Wv{t:Tr}(h:Bt t)(u:List CW):Kj t u= .yes t u:=by unfold Kj;rw[Qr h.fits]
theorem Nb{t x u:Tr}{ts:List BY}(h:Bt t)(c:DR ts)(a:Ah t ts=some u):
  ∃U,Gz (AE t ts x) (CW.toI ⟨3,A6 ts,Dz,Ai u⟩)= .yes t U:=by
 have d:=h.lead a;have b:=FE d.good d.fits;have k:=FT c.right c.many;rw[Gd (o:=CW.toI ⟨3,A6 ts,Dz,Ai u⟩) (ts:=ts) (by simp[CW.toI]) rfl k (fun _=>by show(AS ((Ai u).map Aw.toI)).isSome=true;rw[b];rfl)];have e:(AS (CW.toI ⟨3,A6 ts,Dz,Ai u⟩).steps).getD .null=u:=by show(AS ((Ai u).map Aw.toI)).getD .null=u;rw[b];rfl
 rw[e];have j:Ah (AE t ts x) ts=some x:=Mf (f:=fun _=>x) a;have i:AE (AE t ts x) ts u=t:=Mk (f:=fun _=>x) (g:=fun _=>u) a rfl;unfold Da;rw[Qs (by simp[CW.toI]),Qs (by simp[CW.toI]),Qr (by simp[CW.toI]),j];simp only[i];exact⟨_,Wv h _⟩
theorem Sv{t u:Tr}{ts:List BY}(h:Bt t)(j:DR ts)(b:ts≠[])(i:Ah t ts=some u):
  ∃U,Gz (A8 t ts) (CW.toI ⟨1,A6 ts,Dz,Ai u⟩)= .yes t U:=by
 have k:=h.lead i;have d:=FE k.good k.fits;have c:=FT j.right j.many;rw[Gd (o:=CW.toI ⟨1,A6 ts,Dz,Ai u⟩) (ts:=ts) (by simp[CW.toI]) rfl c (fun _=>by show(AS ((Ai u).map Aw.toI)).isSome=true;rw[d];rfl)];have e:(AS (CW.toI ⟨1,A6 ts,Dz,Ai u⟩).steps).getD .null=u:=by show(AS ((Ai u).map Aw.toI)).getD .null=u;rw[d];rfl
 rw[e];obtain⟨p,a,n⟩:=Jj b i;have c:=h.lead a;obtain⟨l,m,_⟩:=Yj c.good n;have r:Ah (A8 t ts) ts.dropLast=some (CT (AH ts) p):=Mf (f:=CT (AH ts)) a;have s:EN (A8 t ts) ts=0:=by unfold EN;rw[Qs b,r];exact l
 have q:At (A8 t ts) ts u=t:=by
  unfold At;rw[Qs b];exact Mk (f:=CT (AH ts)) (g:=Cj (AH ts) u) a m
 unfold Da;rw[Qr (by simp[CW.toI])];unfold Ga;rw[Qs (by rw[s];simp),q];exact⟨_,Wv h _⟩
theorem DR.spot{ts:List BY}{p:Tr}(h:DR ts)(e:ts≠[])(g:Bt p):DR (ts.dropLast++[Eo (AH ts) p]):=by
 have f:Utf.Al (Eo (AH ts) p)=true/\(Eo (AH ts) p).size<=2147483648:=by
  obtain⟨b,c⟩:=h.last e
  cases p with
  |list l=>
   simp only[Eo];by_cases d:AH ts=IN
   .rw[Qr d]
    refine⟨O0 _, ?_⟩;have:=g.many;have:=(IX 5 l.length (by simp only[Ab]at this;omega)).resolve_right (by omega)
    show(Go.Lib.decDigits l.length).toArray.size<=_
    rw[List.size_toArray];omega
   .rw[Qs d];exact⟨b,c⟩
  |_=>exact⟨b,c⟩
 refine⟨?_, ?_, ?_⟩
 .intro s a
  rcases Qf.1 a with a|a
  .exact h.right s ((List.dropLast_sublist _).subset a)
  .simp at a;subst a;exact f.1
 .intro s a
  rcases Qf.1 a with a|a
  .exact h.small s ((List.dropLast_sublist _).subset a)
  .simp at a;subst a;exact f.2
 .have:=h.many
  have:=List.length_pos_iff.2 e;simp;omega
theorem BE(a:List BY)(s:BY):AH (a++[s])=s:=by unfold AH;simp
theorem Na{t x:Tr}{ts:List BY}(h:Bt t)(V:Bt x)(w:DR ts)(K:EN t ts=0):
  ∃U,Gz (At t ts x) (Dd t ts).toI= .yes t U:=by
 by_cases b:ts=[]
 .subst b
  have m:At t [] x=AE t [] x:=rfl;have y:Dd t []=⟨3,A6 [],Dz,Ai t⟩:=rfl;rw[m,y];exact Nb h w rfl
 .obtain⟨p,c,G⟩:=Ol b K
  have u:=h.lead c;have B:Dd t ts=GF ts.dropLast (AH ts) p:=by unfold Dd;rw[Qs b,c];rfl
  have q:At t ts x=Bz (Cj (AH ts) x) t ts.dropLast:=by unfold At;rw[Qs b]
  have new:(∀ks l,p= .obj ks l->C4 ks (AH ts)=false)->GF ts.dropLast (AH ts) p=⟨2,A6 (ts.dropLast++[Eo (AH ts) p]),Dz,[]⟩->
    ∃U,Gz (At t ts x) (Dd t ts).toI= .yes t U:=by
   intro M n;obtain⟨z,A⟩:=Yl (x:=x) u.good G M;have D:=w.spot b u;have O:=FT D.right D.many;rw[B,n,Gd (o:=CW.toI ⟨2,A6 (ts.dropLast++[Eo (AH ts) p]),Dz,[]⟩) (by simp[CW.toI]) rfl O (fun h=>by simp[CW.toI,AN]at h)]
   have J:Ah (At t ts x) (ts.dropLast++[Eo (AH ts) p])=some x:=by
    rw[q,BW,Mf (f:=Cj (AH ts) x) c];exact z
   have H:A8 (At t ts x) (ts.dropLast++[Eo (AH ts) p])=t:=by
    unfold A8;rw[BE,List.dropLast_concat,q];exact Mk (f:=Cj (AH ts) x) (g:=CT (Eo (AH ts) p)) c A
   unfold Da;rw[Qs (by simp[CW.toI]),Qr (by simp[CW.toI]),Qs (by simp),J];simp only[H];exact⟨_,rfl⟩
  cases p with
  |obj ks l=>
   by_cases a:C4 ks (AH ts)=true
   .have n:GF ts.dropLast (AH ts) (.obj ks l)=⟨3,A6 (ts.dropLast++[AH ts]),Dz,Ai (l.getD (A5 ks (AH ts)) .null)⟩:=by
     unfold GF;simp only;rw[Qr a]
    have I:ks.length=l.length:=u.good.2.1;obtain⟨z,A⟩:=YR (x:=x) I a;have T:=Dk (Cp.1 a)
    have Q:Ah t ts=some (l.getD (A5 ks (AH ts)) .null):=by
     conv=>lhs;rw[<-CL ts b]
     rw[BW,c];simp only[Option.bind_some,Dy,D6,Qr a,Ab];rw[List.getD_eq_getElem?_getD,Q9 (by omega)];rfl
    rw[B,n,CL ts b]
    have P:At t ts x=AE t ts x:=by
     rw[q];unfold AE
     conv=>rhs;rw[<-CL ts b]
     rw[Gh]
     have L:∀(f g:Tr->Tr) (k:List BY) (t:Tr),Ah t k=some (.obj ks l)->f (.obj ks l)=g (.obj ks l)->Bz f t k=Bz g t k:=by
      intro f g k
      induction k with
      |nil=>intro t d j;simp only[Ah]at d;injection d with d;subst d;exact j
      |cons s r R=>
       intro t d j;obtain⟨i,v,E,F,S⟩:=CC d;rw[BF E F,BF E F,R v S j]
     refine L _ _ _ _ c ?_;have N:D6 (.obj ks l) (AH ts)=some (A5 ks (AH ts)):=by simp only[D6,Qr a]
     have C:A5 ks (AH ts)<l.length:=by omega
     have hi:(Ab (.obj ks l))[A5 ks (AH ts)]? =some (l[A5 ks (AH ts)]'C):=Q9 C;rw[BF N hi];simp only[Cj,Qr a,Bz,AW,Ab]
    rw[P];exact Nb h w Q
   .have j:C4 ks (AH ts)=false:=by simpa using a
    refine new (fun W X e=>by injection e with m y;subst m;exact j) ?_;unfold GF;simp only;rw[Qs a];rfl
  |_=>exact new (fun _ _ e=>by cases e) rfl
theorem X3{t q:Tr}{o:Bq}{v:List CW}(h:Bt t)(l:ZL o)(b:Gz t o= .yes q v):∃U,BR q [] 0 (v.map CW.toI)= .yes t U:=by
 have one:∀{a:CW},(∃U,Gz q a.toI= .yes t U)->∃U,BR q [] 0 ([a].map CW.toI)= .yes t U:=by
  rintro a ⟨U,G⟩;simp[BR,G]
 have O:=LX h l b;unfold Gz at b;split at b
 .cases b
 .rename_i d
  have d:Bn o=0:=by simpa using d
  unfold Bn at d;split at d
  .cases d
  .rename_i J
   split at d
   .cases d
   .rename_i n
    split at d
    .cases d
    .rename_i A
     simp only[not_or,not_and]at J n A;obtain⟨s,p⟩:=Option.ne_none_iff_exists'.1 n.1;have i:=PK p l.path;rw[p,Option.getD_some]at b
     have H:AN o.kind=true->Bt ((AS o.steps).getD .null):=by
      intro K;have:=A K
      cases w:AS o.steps with
      |none=>rw[w]at this;simp at this
      |some x=>exact FD l.steps w
     unfold Da at b;split at b
     .rename_i L
      obtain⟨g,rfl,rfl,r⟩:=Fd b;exact one (Na h (H (by rw[L];rfl)) i g)
     .split at b
      .split at b
       .cases b
       .rename_i m
        cases c:Ah t s with
        |none=>rw[c]at b;cases b
        |some u=>rw[c]at b;injection b with b j;subst b;subst j;exact one (Sv h i m c)
      .split at b
       .rename_i P
        cases c:Ah t s with
        |none=>rw[c]at b;cases b
        |some u=>
         rw[c]at b;obtain⟨rfl,rfl,r⟩:=Ib b;exact one (Nb h i c)
       .split at b
        .rename_i M
         split at b
         .cases b
         .rename_i y
          cases f:AD o.frm with
          |none=>exact absurd f (n.2 (by rw[M];rfl))
          |some k=>
           have I:=PK f l.frm;rw[f,Option.getD_some]at b
           cases c:Ah t k with
           |none=>rw[c]at b;cases b
           |some u=>
            rw[c]at b;simp only at b;split at b
            .injection b with b j;subst b;subst j;exact⟨[],rfl⟩
            .rename_i z
             obtain⟨g,rfl,rfl,r⟩:=Fd b
             have m:k≠[]:=by
              intro e;subst e;have F:=(D7 f).1 rfl;rw[F]at y z;have:=Jb p (by simpa using y);exact z ((D7 p).1 this)
             obtain⟨B,D⟩:=Na (h.cut m c) (h.lead c) i g;obtain⟨C,E⟩:=Sv h I m c;refine⟨C++(B++[]), ?_⟩;simp only[List.map_cons,List.map_nil,BR,D,E]
        .split at b
         .rename_i N
          cases f:AD o.frm with
          |none=>exact absurd f (n.2 (by rw[N];rfl))
          |some k=>
           rw[f,Option.getD_some]at b
           cases c:Ah t k with
           |none=>rw[c]at b;cases b
           |some u=>
            rw[c]at b;obtain⟨g,rfl,rfl,r⟩:=Fd b;exact one (Na h (h.lead c) i g)
         .cases c:Ah t s with
          |none=>rw[c]at b;cases b
          |some u=>
           rw[c]at b;simp only at b;split at b
           .injection b with b j;subst b;subst j;exact⟨[],rfl⟩
           .cases b
theorem Ik:∀{a b:List Bq} {t:Tr} {u:List CW} {i:Nat},BR t u i (a++b)=match BR t u i a with
  | .no e k=> .no e k
  | .yes c d=>BR c d (i+a.length) b
 |[],b,t,u,i=>by simp[BR]
 |o::a,b,t,u,i=>by
  simp only[Qo,BR]
  cases Gz t o with
  |no e=>rfl
  |yes f v=>
   simp only;rw[Ik (a:=a),Qj,Nat.add_assoc i 1,Nat.add_comm 1]
theorem Fo:∀{l:List Bq} {t:Tr} {u:List CW} {i:Nat},BR t u i l=match BR t [] 0 l with
  | .no e k=> .no e (i+k)
  | .yes a v=> .yes a (v++u)
 |[],t,u,i=>rfl
 |o::l,t,u,i=>by
  simp only[BR]
  cases Gz t o with
  |no e=>rfl
  |yes b v=>
   simp only[Nat.zero_add,List.append_nil];rw[Fo (l:=l) (u:=v++u),Fo (l:=l) (u:=v) (i:=1)]
   cases BR b [] 0 l with
   |no e k=>simp only[Nat.add_assoc]
   |yes c d=>simp only[List.append_assoc]
theorem KD:∀{l:List Bq} {t b:Tr} {u v:List CW} {i:Nat},Bt t->(∀o∈l,ZL o)->BR t u i l= .yes b v->Bt b
 |[],t,b,u,v,i,h,_,a=>by simp only[BR]at a;injection a with f _;exact f▸h
 |o::l,t,b,u,v,i,h,d,a=>by
  simp only[BR]at a
  cases c:Gz t o with
  |no e=>rw[c]at a;cases a
  |yes j w=>rw[c]at a;exact KD (LX h (d o (by simp)) c) (fun x g=>d x (by simp[g])) a
theorem Su:∀{l:List Bq} {t d:Tr} {v:List CW},Bt t->(∀o∈l,ZL o)->BR t [] 0 l= .yes d v->∃U,BR d [] 0 (v.map CW.toI)= .yes t U
 |[],t,d,v,_,_,a=>by simp only[BR]at a;injection a with j b;subst j;subst b;exact⟨[],rfl⟩
 |o::l,t,d,v,h,f,a=>by
  simp only[BR,List.append_nil]at a
  cases c:Gz t o with
  |no e=>rw[c]at a;cases a
  |yes q w=>
   rw[c]at a;simp only at a;rw[Fo]at a
   cases b:BR q [] 0 l with
   |no e k=>rw[b]at a;cases a
   |yes u y=>
    rw[b]at a;simp only at a
    injection a with g i
    subst g;subst i;obtain⟨r,m⟩:=Su (LX h (f o (by simp)) c) (fun x p=>f x (by simp[p])) b;obtain⟨s,n⟩:=X3 h (f o (by simp)) c;rw[List.map_append,Ik,m];simp only;rw[Fo,n];exact⟨_,rfl⟩
def BJ(o:Bq)(sv:Vl):List Vl:=[.int .i64 o.kind,.string o.path,.string o.frm,sv]
def Cc(w:Wl):List Bq->List Vl->Prop
 |[],xs=>xs=[]
 |o::l,xs=>∃sv ys r,xs=BJ o sv++r/\As w sv 6 o.steps.length ys/\Az w o.steps ys/\Cc w l r
theorem Cc.kept{w w':Wl}(a:Chg w w' []):∀{l:List Bq} {xs:List Vl},Cc w l xs->Cc w' l xs
 |[],_,h=>h
 |o::l,_,⟨sv,ys,r,b,c,d,e⟩=>⟨sv,ys,r,b,c.kept a,d.kept a,e.kept a⟩
theorem Cc.length{w:Wl}:∀{l:List Bq} {xs:List Vl},Cc w l xs->xs.length=l.length*4
 |[],_,h=>by unfold Cc at h;subst h;rfl
 |o::l,_,⟨sv,ys,r,a,_,_,b⟩=>by subst a;have:=b.length;simp[BJ];omega
theorem Cc.append{w:Wl}:∀{l m:List Bq} {xs ys:List Vl},Cc w l xs->Cc w m ys->Cc w (l++m) (xs++ys)
 |[],_,_,_,h,k=>by unfold Cc at h;subst h;exact k
 |o::l,_,_,_,⟨sv,e,r,a,b,c,d⟩,k=>⟨sv,e,r++_,by rw[a,List.append_assoc],b,c,d.append k⟩
theorem Cc.get{w:Wl}:∀{l:List Bq} {xs:List Vl},Cc w l xs->∀(i:Nat) (o:Bq),l[i]? =some o->
  ∃sv ys,As w sv 6 o.steps.length ys/\Az w o.steps ys/\∀j v,(BJ o sv)[j]? =some v->xs[i*4+j]? =some v
 |[],_,_,i,o,b=>by simp at b
 |a::l,_,⟨sv,ys,r,d,e,f,g⟩,i,o,b=>by
  subst d
  cases i with
  |zero=>
   simp at b;subst b;refine⟨sv,ys,e,f,fun j v c=> ?_⟩;have h:j<(BJ a sv).length:=(Qc.1 c).1;rw[Nat.zero_mul,Nat.zero_add,List.getElem?_append_left h,c]
  |succ i=>
   obtain⟨p,q,k,m,n⟩:=g.get i o (by simpa using b);refine⟨p,q,k,m,fun j v c=> ?_⟩;rw[List.getElem?_append_right (by simp[BJ];omega),<-n j v c]
   congr 1
   simp[BJ];omega
def SE(F:Nat->Prop)(a:Vl):Prop:=∀b o n c,a= .slice (some ⟨b,o,none⟩) n c->F b
def Cr(w:Wl)(F:Nat->Prop):List Ap->List Vl->Prop
 |[],xs=>xs=[]
 |s::l,xs=>∃sk r,xs=AI s sk++r/\As w sk 1 s.keys.length (Ad s.keys)/\SE F sk/\Cr w F l r
def Eh(w:Wl)(F:Nat->Prop):List Bq->List Vl->Prop
 |[],xs=>xs=[]
 |o::l,xs=>∃sv ys r,xs=BJ o sv++r/\As w sv 6 o.steps.length ys/\SE F sv/\Cr w F o.steps ys/\Eh w F l r
theorem As.keptF{w w':Wl}{F:Nat->Prop}{d:Vl}{sz n:Nat}{xs:List Vl}(h:As w d sz n xs)(m:SE F d)(p:BZ F w w'):As w' d sz n xs:=by
 obtain⟨a,c,e,j,k,l⟩:=h;refine⟨a,c,e,j,k,fun i v q=> ?_⟩;obtain⟨b,o,f,g⟩:=l i v q;subst f;exact⟨b,o,rfl,(p b _ (m b o n c e)).trans g⟩
theorem SE.mono{F G:Nat->Prop}{a:Vl}(h:SE F a)(d:∀b,F b->G b):SE G a:=fun b o n c e=>d b (h b o n c e)
theorem Cr.kept{w w':Wl}{F G:Nat->Prop}(d:BZ F w w')(c:∀b,F b->G b):∀{l:List Ap} {xs:List Vl},Cr w F l xs->Cr w' G l xs
 |[],_,h=>h
 |s::l,_,⟨sk,r,e,f,a,g⟩=>⟨sk,r,e,f.keptF a d,a.mono c,g.kept d c⟩
theorem Eh.kept{w w':Wl}{F G:Nat->Prop}(c:BZ F w w')(a:∀b,F b->G b):∀{l:List Bq} {xs:List Vl},Eh w F l xs->Eh w' G l xs
 |[],_,h=>h
 |o::l,_,⟨sv,ys,r,e,f,d,g,i⟩=>⟨sv,ys,r,e,f.keptF d c,d.mono a,g.kept c a,i.kept c a⟩
theorem Cr.toR{w:Wl}{F:Nat->Prop}:∀{l:List Ap} {xs:List Vl},Cr w F l xs->Az w l xs
 |[],_,h=>h
 |s::l,_,⟨sk,r,a,b,_,c⟩=>⟨sk,r,a,b,c.toR⟩
theorem Eh.toIn{w:Wl}{F:Nat->Prop}:∀{l:List Bq} {xs:List Vl},Eh w F l xs->Cc w l xs
 |[],_,h=>h
 |o::l,_,⟨sv,ys,r,a,b,_,c,d⟩=>⟨sv,ys,r,a,b,c.toR,d.toIn⟩
theorem Eh.append{w:Wl}{F:Nat->Prop}:∀{l m:List Bq} {xs ys:List Vl},Eh w F l xs->Eh w F m ys->Eh w F (l++m) (xs++ys)
 |[],_,_,_,h,k=>by unfold Eh at h;subst h;exact k
 |o::l,_,_,_,⟨sv,f,r,a,b,c,d,e⟩,k=>⟨sv,f,r++_,by rw[a,List.append_assoc],b,c,d,e.append k⟩
theorem Eh.length{w:Wl}{F:Nat->Prop}{l:List Bq}{xs:List Vl}(h:Eh w F l xs):xs.length=l.length*4:=h.toIn.length
theorem Cr.append{w:Wl}{F:Nat->Prop}:∀{l m:List Ap} {xs ys:List Vl},Cr w F l xs->Cr w F m ys->Cr w F (l++m) (xs++ys)
 |[],_,_,_,h,k=>by unfold Cr at h;subst h;exact k
 |s::l,_,_,_,⟨sk,r,a,b,c,d⟩,k=>⟨sk,r++_,by rw[a,List.append_assoc],b,c,d.append k⟩
theorem C0(s:Ap)(a:Option Addr)(n c:Nat):∀u∈AI s (.slice a n c),u.oneCell'=true:=by
 intro u b;simp only[AI,Qh,List.not_mem_nil,or_false]at b
 rcases b with rfl|rfl|rfl|rfl|rfl|rfl<;>rfl
theorem Cr.one{w:Wl}{F:Nat->Prop}:∀{l:List Ap} {xs:List Vl},Cr w F l xs->∀u∈xs,u.oneCell'=true
 |[],_,h,u,b=>by unfold Cr at h;subst h;cases b
 |s::l,_,⟨sk,r,d,e,_,f⟩,u,b=>by
  subst d;obtain⟨a,c,rfl,_⟩:=e.form
  rcases Qf.1 b with b|b
  .exact C0 s a _ c u b
  .exact f.one u b
theorem Dx(o:Bq)(a:Option Addr)(n c:Nat):∀u∈BJ o (.slice a n c),u.oneCell'=true:=by
 intro u b;simp only[BJ,Qh,List.not_mem_nil,or_false]at b
 rcases b with rfl|rfl|rfl|rfl<;>rfl
theorem Cc.one{w:Wl}:∀{l:List Bq} {xs:List Vl},Cc w l xs->∀u∈xs,u.oneCell'=true
 |[],_,h,u,b=>by unfold Cc at h;subst h;cases b
 |o::l,_,⟨sv,ys,r,d,e,_,f⟩,u,b=>by
  subst d;obtain⟨a,c,rfl,_⟩:=e.form
  rcases Qf.1 b with b|b
  .exact Dx o a _ c u b
  .exact f.one u b
theorem EK{o:Bq}(h:Bn o=0):(1<=o.kind/\o.kind<=6)/\(∃ts,AD o.path=some ts)/\(AO o.kind=true->∃ts,AD o.frm=some ts)/\(AN o.kind=true->∃x,AS o.steps=some x):=by
 unfold Bn at h;split at h
 .cases h
 .rename_i e
  split at h
  .cases h
  .rename_i a
   split at h
   .cases h
   .rename_i b
    simp only[not_or,not_and]at e a b;refine⟨by omega,Option.ne_none_iff_exists'.1 a.1,fun d=>Option.ne_none_iff_exists'.1 (a.2 d),fun f=> ?_⟩;have:=b f
    cases c:AS o.steps with
    |none=>rw[c]at this;simp at this
    |some x=>exact⟨x,rfl⟩
def f1:Nat:=4607182418800017408
def f2:Nat:=4611686018427387904
def f5:Nat:=4617315517961601024
def f9:Nat:=4621256167635550208
def kA:BY:=⟨#[97]⟩
def kB:BY:=⟨#[98]⟩
def kC:BY:=⟨#[99]⟩
def Fv(b:Nat):Ap:=⟨3,false,b,Dz,0,[]⟩
def Un(n:Int):Ap:=⟨5,false,0,Dz,n,[]⟩
def Y7:Ap:=⟨1,false,0,Dz,0,[]⟩
def Ve(ks:List BY):Ap:=⟨6,false,0,Dz,0,ks⟩
def Ut:List Ap:=[Fv f1,Fv f2,Un 2,Y7,Ve [kC],Ve [kA,kB]]
def T0:Tr:= .obj [kA,kB] [.list [.num f1,.num f2],.obj [kC] [.null]]
def T1:Tr:= .obj [kA] [.list [.num f1,.num f9,.num f2]]
def ar:Tr:= .obj [kA,kB] [.list [.num f1,.num f9,.num f2],.obj [kC] [.null]]
def aC:BY:=⟨#[47,97,47,49]⟩
def pB:BY:=⟨#[47,98]⟩
def k1:BY:=⟨#[49]⟩
def Ln:List Ap:=[Fv f1,Fv f9,Fv f2,Un 3,Ve [kA]]
def Z5:Bq:=⟨1,aC,Dz,[Fv f9]⟩
def ak:Bq:=⟨2,pB,Dz,[]⟩
def DH:List Bq:=[Z5,ak]
def Zf:CW:=⟨1,pB,Dz,Ai (.obj [kC] [.null])⟩
def X2:CW:=⟨2,aC,Dz,[]⟩
def Fa:List CW:=[Zf,X2]
theorem PA:Ut=(Ai T0).map Aw.toI:=rfl
theorem Xb:Hs f1:=⟨by decide,by kernel_rfl,by kernel_rfl⟩
theorem Xc:Hs f2:=⟨by decide,by kernel_rfl,by kernel_rfl⟩
theorem Xe:Hs f9:=⟨by decide,by kernel_rfl,by kernel_rfl⟩
theorem U3:Cy [kA,kB]:=⟨by decide,by decide,by decide,by decide⟩
theorem WJ:Cy [kA]:=⟨by decide,by decide,by decide,by decide⟩
theorem Rc:Cy [kC]:=⟨by decide,by decide,by decide,by decide⟩
theorem LH:Bt T0:=⟨⟨U3,rfl,⟨Xb,Xc,trivial⟩,⟨Rc,rfl,trivial,trivial⟩,trivial⟩,by decide⟩
theorem Ue:Bt (.num f9):=⟨Xe,by decide⟩
theorem TZ{p:UInt8->Bool}:∀(l r:List UInt8),l.all p=true->(l++r).takeWhile p=l++r.takeWhile p/\(l++r).dropWhile p=r.dropWhile p
 |[],r,_=>⟨rfl,rfl⟩
 |c::l,r,h=>by
  simp only[List.all_cons,Bool.and_eq_true]at h;obtain⟨a,b⟩:=TZ l r h.2;rw[Qo,List.takeWhile_cons,List.dropWhile_cons,Qr h.1,Qr h.1,a,b];exact⟨rfl,rfl⟩
theorem Sr(l:List UInt8)(h:l.all Bc=true)(c:UInt8):CE (c::l)=[Ct l]:=by
 rw[CE];have e:=TZ l [] h;rw[List.append_nil]at e;rw[e.1,e.2];simp[CE]
theorem X0(a b:List UInt8)(h:a.all Bc=true)(c:UInt8):CE (c::(a++47::b))=Ct a::CE (47::b):=by
 rw[CE];have d:Bc 47=false:=rfl;have e:=TZ a (47::b) h;rw[e.1,e.2,List.takeWhile_cons,List.dropWhile_cons];simp[d]
theorem RK{s:BY}{ts:List (List UInt8)}(a:CY s.data.toList=true)(b:BH s.data.toList=true)(c:A4 s.data.toList=true)(d:s.data.toList.count 47<=65536)(h:CE s.data.toList=ts):
  AD s=some (ts.map fun t=>⟨t.toArray⟩):=by
 unfold AD;rw[Qr ⟨by rw[E8];exact a,b,c,d⟩,h]
theorem Xx:AD aC=some [kA,k1]:=
 RK (ts:=[[97],[49]]) (by decide) (by decide) (by decide) (by decide) (by
  show CE (47::([97]++47::[49]))=_
  rw[X0 _ _ (by decide),Sr _ (by decide)];rfl)
theorem YK:AD pB=some [kB]:=
 RK (ts:=[[98]]) (by decide) (by decide) (by decide) (by decide) (by
  show CE (47::[98])=_
  rw[Sr _ (by decide)];rfl)
theorem P4:AS [Fv f9]=some (.num f9):=FE (t:= .num f9) Ue.good Ue.fits
theorem au:Gz T0 Z5= .yes ar [X2]:=by
 rw[Gd (ts:=[kA,k1]) (by decide) rfl Xx (fun _=>by show(AS [Fv f9]).isSome=true;rw[P4];rfl)]
 show Da T0 Z5 [kA,k1] _ ((AS [Fv f9]).getD .null)=_
 rw[P4];rfl
theorem av:Gz ar ak= .yes T1 [Zf]:=by
 rw[Gd (ts:=[kB]) (by decide) rfl YK (fun h=>by cases h)];rfl
theorem KL:BR T0 [] 0 DH= .yes T1 Fa:=by
 unfold DH BR;rw[au]
 show BR ar [X2] 1 [ak]=_
 unfold BR;rw[av];rfl
theorem Lj:∀o∈DH,ZL o:=by
 have d:(0:Int)<=9223372036854775807:=by decide
 intro o b;simp only[DH,Qh,List.not_mem_nil,or_false]at b
 rcases b with rfl|rfl
 .refine⟨by decide,by decide,fun s a=> ?_⟩
  simp only[Z5,Qh,List.not_mem_nil,or_false]at a;subst a;exact⟨by decide,by decide,by decide,(fun k c=>by cases c),by decide,by decide⟩
 .exact⟨by decide,by decide,fun s a=>by cases a⟩
theorem T5:∃U,BR T1 [] 0 (Fa.map CW.toI)= .yes T0 U:=Su LH Lj KL
end
section
open _root_.Go.Proofs.Tryz
open Go Go.RowKit Tree Ptr
def MF:List Char:=[Char.ofNat 97,Char.ofNat 102,Char.ofNat 102,Char.ofNat 105,Char.ofNat 100,Char.ofNat 97,Char.ofNat 118,Char.ofNat 105,Char.ofNat 116,Char.ofNat 47,Char.ofNat 112,Char.ofNat 97,Char.ofNat 116,Char.ofNat 99,Char.ofNat 104,Char.ofNat 46]
def J8:String:=String.ofList (MF++[Char.ofNat 115,Char.ofNat 105,Char.ofNat 122,Char.ofNat 101])
def EB:String:=String.ofList (MF++[Char.ofNat 115,Char.ofNat 116,Char.ofNat 101,Char.ofNat 112,Char.ofNat 115])
def GK:String:=String.ofList (MF++[Char.ofNat 99,Char.ofNat 111,Char.ofNat 112,Char.ofNat 105,Char.ofNat 101,Char.ofNat 100])
theorem results_tmp3{b:Func}{t u v:Tmp}(h:b.results=#[.tmp t,.tmp u,.tmp v])(a:Array Vl)(P:Program)(w:Wl):
  (results b a).run P w= .ok (.tuple #[a.getD t undef,a.getD u undef,a.getD v undef]) w:=by
 simp[results,h]
def Jv(s:Sz):Vl:= .tuple #[.int .i64 s.nodes,.int .i64 s.bytes,.int .i64 s.depth]
theorem RD(sv:Vl)(s:BY)(b:Bool)(c:∃a x,sv= .iface a x)(d:∀w,(Instr.typeAssert sv 181 179 true).run prog w= .ok (.tuple #[.string s,.bool b]) w)(w:Wl):
  Cl prog 321 #[.agg #[sv]] w fun e w'=>e= .returned (Jv ⟨1,s.size,1⟩)/\Chg w w' []:=by
 obtain⟨a,x,rfl⟩:=c;go_enter func321,ntmps321
 go_wp2
 refine bodyPost_ret (results_tmp3 rfl _ _ _) rfl ⟨rfl,by exact cg cR⟩
theorem VB(v:Vl)(w:Wl):(callMethod (.iface 183 (.agg #[v])) J8 #[]).run prog w= .ok (.enter 321 #[.agg #[v]]) w:=by kernel_rfl
theorem VC(b:Nat)(w:Wl):(callMethod (.iface 104 (.pointer (some ⟨b,0,none⟩))) J8 #[]).run prog w= .ok (.enter 303 #[.pointer (some ⟨b,0,none⟩)]) w:=by kernel_rfl
theorem Se(b:Nat)(w:Wl):(callMethod (.iface 175 (.pointer (some ⟨b,0,none⟩))) J8 #[]).run prog w= .ok (.enter 316 #[.pointer (some ⟨b,0,none⟩)]) w:=by kernel_rfl
def JB(v:Vl)(s:Sz)(w:Wl):Prop:=∃f args,(callMethod v J8 #[]).run prog w= .ok (.enter f args) w/\Cl prog f args w fun e w'=>e= .returned (Jv s)/\Chg w w' []
theorem KW{l:List Tr}(h:∀u∈l,(Ag u).within=true)(k:Nat):(Bk (l.take k)).nodes<=65536*l.length/\(Bk (l.take k)).bytes<=2097152*l.length/\(Bk (l.take k)).depth<=512:=by
 have b:=(EJ.take (l:=l) h k).sum;have a:(l.take k).length<=l.length:=by rw[Ql];omega
 have:=Nat.mul_le_mul_left 65536 a;have:=Nat.mul_le_mul_left 2097152 a;omega
theorem Ld(l:List Tr)(vs:List Vl)(fs:List Nat)(b:Nat)(a:Option Addr)(c:Nat)(w:Wl)(hb:w.cell? ⟨b,0,none⟩=some (.slice a vs.length c))(L:AK w (.slice a vs.length c) 95 vs)(s:PsAt w l vs fs)(P:∀u∈l,(Ag u).within=true)(hl:l.length<=65536)(I:∀u v o w',u∈l->AP w' u v o->JB v (Ag u) w'):
  Cl prog 303 #[.pointer (some ⟨b,0,none⟩)] w fun e w'=>e= .returned (Jv ((Bk l).over 0))/\Chg w w' []:=by
 have ad:=s.length;have F:=hZ L;have HP:=hZ s;have Y:=hZ I;have E:=hZ P;have lb:=World.block_lt_of_cell? w _ hb;clear L s I P;go_enter func303,ntmps303
 go_wp2
 go_loopw [2,3,4,15] (fun v2 v3 v4 B wr=>∃k:Nat,k<=vs.length/\v2= .int .i64 (Bk (l.take k)).nodes/\v3= .int .i64 (Bk (l.take k)).bytes/\v4= .int .i64 (Bk (l.take k)).depth/\B= .int .i64 k/\Chg w wr [])
  (fun _ _ _ B _=>vs.length-(intOf B).toNat)
 case atStart=>exact⟨0,by omega,by simp[Bk],by simp[Bk],by simp[Bk],rfl,Chg.refl _ _⟩
 case round=>
  obtain⟨k,hk,rfl,rfl,rfl,rfl,Q⟩:=hrel;have n:=KW E.o k;obtain⟨N,r⟩:∃N,N=(Bk (l.take k)).nodes:=⟨_,rfl⟩
  obtain⟨M,q⟩:∃M,M=(Bk (l.take k)).bytes:=⟨_,rfl⟩
  obtain⟨D,p⟩:∃D,D=(Bk (l.take k)).depth:=⟨_,rfl⟩
  rw[<-r,<-q,<-p]at n|-;have H:=hZ r;have G:=hZ q;have C:=hZ p;clear r q p;have n1:N<=4294967296:=by omega
  have n2:M<=137438953472:=by omega
  have n3:D<=512:=n.2.2;clear n;have h:=hZ Q;clear Q;by_cases aa:k<vs.length
  .have y:k<l.length:=by omega
   obtain⟨u,j⟩:∃u,l[k]? =some u:=⟨_,Q9 y⟩
   obtain⟨v,o,W,V,_⟩:=HP.o.get j
   obtain⟨g,rfl⟩:∃g,a=some ⟨g,0,none⟩:=by
    obtain⟨a',c',e,h⟩:=F.o.form
    injection e with i
    subst i;exact h (by intro e;subst e;simp at aa)
   have ab:wr.cell? ⟨g,k,none⟩=some v:=h.o.keeps (F.o.cell rfl k v W);have z:=V.chg h.o (by simp);have A:=Qi j;obtain⟨ti,x,rfl⟩:=z.iface;obtain⟨f,args,T,O⟩:=Y.o u _ o wr A z;have Z:=hZ T;have d:=Ar (E.o u A);obtain⟨S,t⟩:∃S,S=Ag u:=⟨_,rfl⟩
   rw[<-t]at d O;obtain⟨s1,s2,s3⟩:=S;simp only at d;obtain⟨d,ae,w3⟩:=d
   have U:Bk (l.take (k+1))=⟨N+s1,M+s2,max D s3⟩:=by
    rw[BM j,<-t];unfold Sz.add;rw[<-H.o,<-G.o,<-C.o]
   have m:=hZ U;clear U T W V z t j A
   go_wp2_with(first
    |(refine Am rfl _ _ _ rfl _ rfl f args Z.o _ O ?_;rintro e d ⟨rfl,R⟩;refine⟨_,rfl, ?_⟩;unfold Jv;have X:=hZ R;clear R))
   go_roundw
   case rel=>
    refine⟨k+1,by omega, ?_, ?_, ?_,by go_num,h.o.trans X.o⟩
    .rw[m.o];simp
    .rw[m.o];simp
    .rw[m.o];simp;omega
   case measure=>simp[intOf];omega
  .go_wp2
   refine bodyPost_ret (results_tmp3 rfl _ _ _) rfl ?_;have y:l.take k=l:=Qn (by omega);have i:=H.o;have J:=G.o;have K:=C.o;rw[y]at i J K;subst i;subst J;subst K;refine⟨?_,h.o⟩;unfold Jv Sz.over;simp;omega
end
section
open Go Go.RowKit Tree Ptr
structure Nj(bs:List Nat)(G:Nat->Prop)(sv:Vl)(n:Nat)(l:List Ap)(xs:List Vl)(w:Wl):Prop where
 lst:Ba w sv 72 6 n xs
 at_:Cr w G l xs
 own:∀g,sv.ownBlock=some g->g∉bs/\¬G g
 ltG:∀b,G b->b<w.heap.size
def MW(t:Tr):List Ap:=(Ai t).map Aw.toI
def KH(l:List Tr):List Ap:=(BI l).map Aw.toI
def CJ(G:Nat->Prop)(sv:Vl)(n m:Nat)(l:List Ap)(w:Wl)(e:Ending)(w':Wl):Prop:=
 ∃c a d,e= .returned c/\Ba w' c 72 6 (n+m) d/\Cr w' a l d/\Chg w w' sv.ownBlock.toList/\
  (∀g,c.ownBlock=some g->sv.ownBlock=some g\/w.heap.size<=g)/\(∀b,G b->a b)/\(∀b,a b->b<w.heap.size->G b)/\(∀b,a b->b<w'.heap.size)/\(∀g,c.ownBlock=some g->¬a g)
theorem Nj.kept{bs:List Nat}{G:Nat->Prop}{sv:Vl}{n:Nat}{l:List Ap}{xs:List Vl}{w w':Wl}(h:Nj bs G sv n l xs w)(a:Chg w w' []):Nj bs G sv n l xs w':=
 ⟨h.lst.kept a,h.at_.kept (a.keepsF h.ltG) (fun _ h=>h),h.own,fun b c=>Q6 (h.ltG b c) a.size⟩
theorem Nj.sub{bs cs:List Nat}{G:Nat->Prop}{sv:Vl}{n:Nat}{l:List Ap}{xs:List Vl}{w:Wl}(h:Nj bs G sv n l xs w)(d:∀b,b∈cs->b∈bs):Nj cs G sv n l xs w:=
 ⟨h.lst,h.at_,fun g a=>⟨fun c=>(h.own g a).1 (d g c),(h.own g a).2⟩,h.ltG⟩
theorem CJ.inn{bs:List Nat}{G:Nat->Prop}{sv:Vl}{n m:Nat}{l k:List Ap}{xs:List Vl}{w w':Wl}{e:Ending}(p:Nj bs G sv n l xs w)(o:∀b,b∈bs->b<w.heap.size)(h:CJ G sv n m k w e w'):
  ∃c a d,e= .returned c/\Nj bs a c (n+m) k d w'/\Chg w w' sv.ownBlock.toList/\(∀g,c.ownBlock=some g->sv.ownBlock=some g\/w.heap.size<=g)/\(∀b,G b->a b)/\(∀b,a b->b<w.heap.size->G b):=by
 obtain⟨c,a,d,rfl,q,r,s,j,t,u,v,x⟩:=h;refine⟨c,a,d,rfl,⟨q,r,fun g f=>⟨fun i=> ?_,x g f⟩,v⟩,s,j,t,u⟩
 rcases j g f with h|h
 .exact(p.own g h).1 i
 .have:=o g i;omega
theorem CJ.step{G a:Nat->Prop}{sv o:Vl}{n m k:Nat}{l:List Ap}{w wr w':Wl}{e:Ending}(p:∀b,G b->a b)(q:∀b,a b->b<w.heap.size->G b)(d:Chg w wr sv.ownBlock.toList)(i:∀g,o.ownBlock=some g->sv.ownBlock=some g\/w.heap.size<=g)(h:CJ a o (n+m) k l wr e w'):CJ G sv n (m+k) l w e w':=by
 obtain⟨C,G2,D,rfl,t,u,v,x,y,z,A,B⟩:=h;refine⟨C,G2,D,rfl,by rw[<-Nat.add_assoc];exact t,u, ?_, ?_,fun b c=>y b (p b c),fun b c f=>q b (z b c (Q6 f d.size)) f,A,B⟩
 .refine d.step v fun j s f=> ?_
  rcases i j (by simpa using s)with h|h
  .simpa using h
  .omega
 .intro g r
  rcases x g r with h|h
  .exact i g h
  .exact .inr (Q7 d.size h)
theorem CJ.same{bs:List Nat}{G:Nat->Prop}{sv:Vl}{n:Nat}{l:List Ap}{xs:List Vl}{w w':Wl}(h:Nj bs G sv n l xs w)(c:Chg w w' []):CJ G sv n 0 l w (.returned sv) w':=by
 have a:=h.kept c;exact⟨sv,G,xs,rfl,a.lst,a.at_,c.none _,fun g b=> .inl b,fun _ h=>h,fun _ h _=>h,a.ltG,fun g b=>(h.own g b).2⟩
theorem KS{w:Wl}{F:Nat->Prop}(s:Ap)(sk:Vl)(b:As w sk 1 s.keys.length (Ad s.keys))(a:SE F sk):Cr w F [s] (AI s sk):=
 ⟨sk,[],by simp,b,a,rfl⟩
theorem CJ.put{bs:List Nat}{G G2:Nat->Prop}{sv:Vl}{n:Nat}{l:List Ap}{xs:List Vl}{w a w2:Wl}{s:Ap}{sk:Vl}{g f:Nat}(o:Nj bs G sv n l xs w)(i:Chg w a [])(u:Ba w2 (.slice (some ⟨g,0,none⟩) (n+1) f) 72 6 (n+1) (xs++AI s sk))(d:Chg a w2 sv.ownBlock.toList)(v:sv.ownBlock=some g\/w.heap.size<=g)(y:As a sk 1 s.keys.length (Ad s.keys))(m:SE G2 sk)(j:∀b,G b->G2 b)(r:∀b,G2 b->b<w.heap.size->G b)(p:∀b,G2 b->b<a.heap.size)(z:¬G2 g)(A:∀g,sv.ownBlock=some g->¬G2 g):
  CJ G sv n 1 (l++[s]) w (.returned (.slice (some ⟨g,0,none⟩) (n+1) f)) w2:=by
 have t:BZ G w a:=i.keepsF o.ltG;have k:BZ G2 a w2:=d.keepsF p (fun b e x=>A b (by simpa using e) x);refine⟨_,G2,_,rfl,u, ?_,(i.none _).trans d, ?_,j,r,fun b e=>Q6 (p b e) d.size, ?_⟩
 .exact((o.at_.kept t j).kept k (fun _ h=>h)).append (KS s sk (y.keptF m k) m)
 .intro q c
  simp[Vl.ownBlock]at c;subst c;exact v
 .intro q c
  simp[Vl.ownBlock]at c;subst c;exact z
end
section
open _root_.Go.Proofs.Tryz
open Go Go.RowKit Tree Ptr
structure Hr(ks:List BY)(s:BY)(i:Nat):Prop where
 yes:C4 ks s=true->i=A5 ks s/\i<ks.length/\ks[i]? =some s
 no:C4 ks s=false->s∉ks/\i<=ks.length/\(∀t k,t<i->ks[t]? =some k->Utf.BK k s<0)/\(∀t k,i<=t->ks[t]? =some k->0<=Utf.BK k s)
theorem Hr.of{ks:List BY}{s:BY}{w w':Wl}{e:Ending}(h:KQ ks s w e w')(m:Cy ks):∃i:Nat,e= .returned (.tuple #[.int .i64 i,.bool (C4 ks s)])/\Chg w w' []/\Hr ks s i/\i<=ks.length:=by
 obtain⟨i,ok,j,k,a,b,c,f,g⟩:=h
 have o:ok=C4 ks s:=by
  cases ok with
  |true=>
   have:=Cp.2 (Qi (a rfl));exact this.symm
  |false=>
   have:=b rfl
   cases l:C4 ks s with
   |true=>exact absurd (Cp.1 l) this
   |false=>rfl
 subst o;refine⟨i,j,k,⟨fun p=> ?_,fun n=>⟨b n,c,f,g⟩⟩,c⟩;have hi:=a p;obtain⟨d,e⟩:=Qc.1 hi;have:=GU m.nodup i d;rw[e]at this;exact⟨this.symm,d,hi⟩
theorem Pl(ks:List BY)(s:BY)(b:Nat)(sv sk:Vl)(w:Wl)(d:Ac w b [sv,sk] 177)(a:AK w sk 9 (Ad ks))(n:Cy ks)(v:Utf.Al s=true)(x:s.size<=2147483648):
  Cl prog 197 #[.pointer (some ⟨b,0,none⟩),.string s] w fun e w'=>∃i:Nat,e= .returned (.tuple #[.int .i64 i,.bool (C4 ks s)])/\Chg w w' []/\Hr ks s i/\i<=ks.length:=by
 obtain⟨f,j,rfl,_⟩:=a.form;rw[Ao]at d a;have y:w.cell? ⟨b,1,none⟩=some (.slice f ks.length j):=d.cell 1
 have t:Hid (∀c,Chg w c []->Cl prog 182 #[.slice f ks.length j,.string s,.func (.func 157) #[] #[]] c fun e w'=>∃i:Nat,e= .returned (.tuple #[.int .i64 i,.bool (C4 ks s)])/\Chg c w' []/\Hr ks s i/\i<=ks.length):=hZ fun c o=>
  (J7 (fun g=>(Vl.slice f ks.length j).ownBlock=some g) _ ks s c (a.kept o).toRow (fun g u=>(a.kept o).lt u) n v x).mono fun e w' h=>Hr.of h n
 clear d a;go_enter func197,ntmps197
 go_wp2_with(first
  |(go_at_call 182;refine(t.o _ (by exact cg cR)).mono ?_;rintro e z ⟨i,rfl,k,l,m⟩;have p:=hZ k;have q:=hZ l;have r:=hZ m;clear k l m))
 refine bodyPost_ret (results_tmp2 rfl _ _ _) rfl ⟨i,by simp,by exact cg p.o,q.o,r.o⟩
end
end Go.Proofs.YtkfnkppdhcaeoaaGreatDoor

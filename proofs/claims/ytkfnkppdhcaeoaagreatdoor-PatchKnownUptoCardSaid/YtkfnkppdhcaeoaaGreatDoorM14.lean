/- Part 14 of the proof of coreBase. -/
import Derived.Test.YtkfnkppdhcaeoaaGreatDoorM13
set_option maxRecDepth 100000
set_option maxHeartbeats 32000000
set_option linter.all false
namespace Go.Proofs.YtkfnkppdhcaeoaaGreatDoor
open Go renaming Calls->Cl,TypeId->Ti,Value->Vl,World->Wl
open Go.Value renaming agg->nA,iface->nF,int->nI,pointer->nP,slice->nS,string->nG,tuple->nT
open Go.IntKind renaming i64->nX
open Go.Ending renaming returned->nR
open Go.Obj renaming cells->nC
open Option renaming none->nN,some->nM
section
open Go Go.RowKit Tree Ptr
def CW.toI(r:CW):Bq:=⟨r.kind,r.path,r.frm,r.steps.map Aw.toI⟩
theorem Pv{l:List UInt8}(h:∀c∈l,c.toNat<128):CY l=true:=by
 induction l with
 |nil=>rfl
 |cons c l b=>rw[EQ _ _ (h c Zh)];exact b fun x a=>h x (by simp[a])
theorem O0(k:Nat):Utf.Al ⟨(Go.Lib.decDigits k).toArray⟩=true:=by
 rw[E8];refine Pv fun c a=> ?_
 have:=List.all_eq_true.1 (DV k).2.1 c a;simp[Fi]at this;omega
theorem IX(n:Nat):∀k,k<10^n->(Go.Lib.decDigits k).length<=n\/n=0:=by
 induction n with
 |zero=>intro k _;exact .inr rfl
 |succ n c=>
  intro k b
  left
  by_cases h:k<10
  .rw[(DV k).2.2.2.2 h];omega
  .rw[Go.Lib.decDigits,dif_neg h,Qk]
   have:k/10<10^n:=by rw[Nat.pow_succ]at b;omega
   rcases c (k/10) this with a|a
   .simp;omega
   .subst a;simp at b;omega
theorem Wj{o:Bq}{ts:List BY}(g:1<=o.kind/\o.kind<=6)(d:AO o.kind=false)(e:AD o.path=nM ts)(f:AN o.kind=true->(AS o.steps).isSome=true):Bn o=0:=by
 unfold Bn;rw[Qs Zj,Qs (by rw[e,d];simp),Qs];rintro⟨a,b⟩;have:=f a;cases c:AS o.steps<;>simp[c]at this b
theorem Gd{t:Tr}{o:Bq}{ts:List BY}(c:1<=o.kind/\o.kind<=6)(b:AO o.kind=false)(a:AD o.path=nM ts)(d:AN o.kind=true->(AS o.steps).isSome=true):
  Gz t o=Da t o ts ((AD o.frm).getD []) ((AS o.steps).getD .null):=by
 unfold Gz;rw[Qs (by rw[Wj c b a d];simp),a];rfl
theorem Wv{t:Tr}(h:Bt t)(u:List CW):Kj t u= .yes t u:=by unfold Kj;rw[Qr h.fits]
theorem Nb{t x u:Tr}{ts:List BY}(h:Bt t)(c:DR ts)(a:Ah t ts=nM u):
  ∃U,Gz (AE t ts x) (CW.toI ⟨3,A6 ts,Dz,Ai u⟩)= .yes t U:=by
 have d:=h.lead a;have b:=FE d.good d.fits;have k:=FT c.right c.many;rw[Gd (o:=CW.toI ⟨3,A6 ts,Dz,Ai u⟩) (ts:=ts) (by simp[CW.toI]) rfl k (fun _=>by show(AS ((Ai u).map Aw.toI)).isSome=true;rw[b];rfl)];have e:(AS (CW.toI ⟨3,A6 ts,Dz,Ai u⟩).steps).getD .null=u:=by show(AS ((Ai u).map Aw.toI)).getD .null=u;rw[b];rfl
 rw[e];have j:Ah (AE t ts x) ts=nM x:=Mf (f:=fun _=>x) a;have i:AE (AE t ts x) ts u=t:=Mk (f:=fun _=>x) (g:=fun _=>u) a rfl;unfold Da;rw[Qs (by simp[CW.toI]),Qs (by simp[CW.toI]),Qr (by simp[CW.toI]),j];simp only[i];exact⟨_,Wv h _⟩
theorem Sv{t u:Tr}{ts:List BY}(h:Bt t)(j:DR ts)(b:ts≠[])(i:Ah t ts=nM u):
  ∃U,Gz (A8 t ts) (CW.toI ⟨1,A6 ts,Dz,Ai u⟩)= .yes t U:=by
 have k:=h.lead i;have d:=FE k.good k.fits;have c:=FT j.right j.many;rw[Gd (o:=CW.toI ⟨1,A6 ts,Dz,Ai u⟩) (ts:=ts) (by simp[CW.toI]) rfl c (fun _=>by show(AS ((Ai u).map Aw.toI)).isSome=true;rw[d];rfl)];have e:(AS (CW.toI ⟨1,A6 ts,Dz,Ai u⟩).steps).getD .null=u:=by show(AS ((Ai u).map Aw.toI)).getD .null=u;rw[d];rfl
 rw[e];obtain⟨p,a,n⟩:=Jj b i;have c:=h.lead a;obtain⟨l,m,_⟩:=Yj c.good n;have r:Ah (A8 t ts) ts.dropLast=nM (CT (AH ts) p):=Mf (f:=CT (AH ts)) a;have s:EN (A8 t ts) ts=0:=by unfold EN;rw[Qs b,r];exact l
 have q:At (A8 t ts) ts u=t:=by
  unfold At;rw[Qs b];exact Mk (f:=CT (AH ts)) (g:=Cj (AH ts) u) a m
 unfold Da;rw[Qr (by simp[CW.toI])];unfold Ga;rw[Qs (by rw[s];simp),q];exact⟨_,Wv h _⟩
theorem DR.spot{ts:List BY}{p:Tr}(h:DR ts)(e:ts≠[])(g:Bt p):DR (ts.dropLast++[Eo (AH ts) p]):=by
 have f:Utf.Al (Eo (AH ts) p)=true/\(Eo (AH ts) p).size<=2147483648:=by
  obtain⟨b,c⟩:=h.last e
  cases p with
  |list l=>
   simp only[Eo];by_cases d:AH ts=IN
   .rw[Qr d]
    refine⟨O0 _, ?_⟩;have:=g.many;have:=(IX 5 l.length (by simp only[Ab]at this;omega)).resolve_right Zj
    show(Go.Lib.decDigits l.length).toArray.size<=_
    rw[List.size_toArray];omega
   .rw[Qs d];exact⟨b,c⟩
  |_=>exact⟨b,c⟩
 refine⟨?_, ?_, ?_⟩
 .intro s a
  rcases Qf.1 a with a|a
  .exact h.right s ((List.dropLast_sublist _).subset a)
  .simp at a;subst a;exact f.1
 .intro s a
  rcases Qf.1 a with a|a
  .exact h.small s ((List.dropLast_sublist _).subset a)
  .simp at a;subst a;exact f.2
 .have:=h.many
  have:=List.length_pos_iff.2 e;simp;omega
theorem BE(a:List BY)(s:BY):AH (a++[s])=s:=by unfold AH;simp
theorem Na{t x:Tr}{ts:List BY}(h:Bt t)(V:Bt x)(w:DR ts)(K:EN t ts=0):
  ∃U,Gz (At t ts x) (Dd t ts).toI= .yes t U:=by
 by_cases b:ts=[]
 .subst b
  have m:At t [] x=AE t [] x:=rfl;have y:Dd t []=⟨3,A6 [],Dz,Ai t⟩:=rfl;rw[m,y];exact Nb h w rfl
 .obtain⟨p,c,G⟩:=Ol b K
  have u:=h.lead c;have B:Dd t ts=GF ts.dropLast (AH ts) p:=by unfold Dd;rw[Qs b,c];rfl
  have q:At t ts x=Bz (Cj (AH ts) x) t ts.dropLast:=by unfold At;rw[Qs b]
  have new:(∀ks l,p= .obj ks l->C4 ks (AH ts)=false)->GF ts.dropLast (AH ts) p=⟨2,A6 (ts.dropLast++[Eo (AH ts) p]),Dz,[]⟩->
    ∃U,Gz (At t ts x) (Dd t ts).toI= .yes t U:=by
   intro M n;obtain⟨z,A⟩:=Yl (x:=x) u.good G M;have D:=w.spot b u;have O:=FT D.right D.many;rw[B,n,Gd (o:=CW.toI ⟨2,A6 (ts.dropLast++[Eo (AH ts) p]),Dz,[]⟩) (by simp[CW.toI]) rfl O (fun h=>by simp[CW.toI,AN]at h)]
   have J:Ah (At t ts x) (ts.dropLast++[Eo (AH ts) p])=nM x:=by
    rw[q,BW,Mf (f:=Cj (AH ts) x) c];exact z
   have H:A8 (At t ts x) (ts.dropLast++[Eo (AH ts) p])=t:=by
    unfold A8;rw[BE,List.dropLast_concat,q];exact Mk (f:=Cj (AH ts) x) (g:=CT (Eo (AH ts) p)) c A
   unfold Da;rw[Qs (by simp[CW.toI]),Qr (by simp[CW.toI]),Qs Zh,J];simp only[H];exact⟨_,rfl⟩
  cases p with
  |obj ks l=>
   by_cases a:C4 ks (AH ts)=true
   .have n:GF ts.dropLast (AH ts) (.obj ks l)=⟨3,A6 (ts.dropLast++[AH ts]),Dz,Ai (l.getD (A5 ks (AH ts)) .null)⟩:=by
     unfold GF;simp only;rw[Qr a]
    have I:ks.length=l.length:=u.good.2.1;obtain⟨z,A⟩:=YR (x:=x) I a;have T:=Dk (Cp.1 a)
    have Q:Ah t ts=nM (l.getD (A5 ks (AH ts)) .null):=by
     conv=>lhs;rw[<-CL ts b]
     rw[BW,c];simp only[Option.bind_some,Dy,D6,Qr a,Ab];rw[List.getD_eq_getElem?_getD,Q9 Zj];rfl
    rw[B,n,CL ts b]
    have P:At t ts x=AE t ts x:=by
     rw[q];unfold AE
     conv=>rhs;rw[<-CL ts b]
     rw[Gh]
     have L:∀(f g:Tr->Tr) (k:List BY) (t:Tr),Ah t k=nM (.obj ks l)->f (.obj ks l)=g (.obj ks l)->Bz f t k=Bz g t k:=by
      intro f g k
      induction k with
      |nil=>intro t d j;simp only[Ah]at d;injection d with d;subst d;exact j
      |cons s r R=>
       intro t d j;obtain⟨i,v,E,F,S⟩:=CC d;rw[BF E F,BF E F,R v S j]
     refine L _ _ _ _ c ?_;have N:D6 (.obj ks l) (AH ts)=nM (A5 ks (AH ts)):=by simp only[D6,Qr a]
     have C:A5 ks (AH ts)<l.length:=Zj
     have hi:(Ab (.obj ks l))[A5 ks (AH ts)]? =nM (l[A5 ks (AH ts)]'C):=Q9 C;rw[BF N hi];simp only[Cj,Qr a,Bz,AW,Ab]
    rw[P];exact Nb h w Q
   .have j:C4 ks (AH ts)=false:=by simpa using a
    refine new (fun W X e=>by injection e with m y;subst m;exact j) ?_;unfold GF;simp only;rw[Qs a];rfl
  |_=>exact new (fun _ _ e=>by cases e) rfl
theorem X3{t q:Tr}{o:Bq}{v:List CW}(h:Bt t)(l:ZL o)(b:Gz t o= .yes q v):∃U,BR q [] 0 (v.map CW.toI)= .yes t U:=by
 have one:∀{a:CW},(∃U,Gz q a.toI= .yes t U)->∃U,BR q [] 0 ([a].map CW.toI)= .yes t U:=by
  rintro a ⟨U,G⟩;simp[BR,G]
 have O:=LX h l b;unfold Gz at b;split at b
 .cases b
 .rename_i d
  have d:Bn o=0:=by simpa using d
  unfold Bn at d;split at d
  .cases d
  .rename_i J
   split at d
   .cases d
   .rename_i n
    split at d
    .cases d
    .rename_i A
     simp only[not_or,not_and]at J n A;obtain⟨s,p⟩:=Option.ne_none_iff_exists'.1 n.1;have i:=PK p l.path;rw[p,Option.getD_some]at b
     have H:AN o.kind=true->Bt ((AS o.steps).getD .null):=by
      intro K;have:=A K
      cases w:AS o.steps with
      |none=>rw[w]at this;simp at this
      |some x=>exact FD l.steps w
     unfold Da at b;split at b
     .rename_i L
      obtain⟨g,rfl,rfl,r⟩:=Fd b;exact one (Na h (H (by rw[L];rfl)) i g)
     .split at b
      .split at b
       .cases b
       .rename_i m
        cases c:Ah t s with
        |none=>rw[c]at b;cases b
        |some u=>rw[c]at b;injection b with b j;subst b;subst j;exact one (Sv h i m c)
      .split at b
       .rename_i P
        cases c:Ah t s with
        |none=>rw[c]at b;cases b
        |some u=>
         rw[c]at b;obtain⟨rfl,rfl,r⟩:=Ib b;exact one (Nb h i c)
       .split at b
        .rename_i M
         split at b
         .cases b
         .rename_i y
          cases f:AD o.frm with
          |none=>exact absurd f (n.2 (by rw[M];rfl))
          |some k=>
           have I:=PK f l.frm;rw[f,Option.getD_some]at b
           cases c:Ah t k with
           |none=>rw[c]at b;cases b
           |some u=>
            rw[c]at b;simp only at b;split at b
            .injection b with b j;subst b;subst j;exact⟨[],rfl⟩
            .rename_i z
             obtain⟨g,rfl,rfl,r⟩:=Fd b
             have m:k≠[]:=by
              intro e;subst e;have F:=(D7 f).1 rfl;rw[F]at y z;have:=Jb p (by simpa using y);exact z ((D7 p).1 this)
             obtain⟨B,D⟩:=Na (h.cut m c) (h.lead c) i g;obtain⟨C,E⟩:=Sv h I m c;refine⟨C++(B++[]), ?_⟩;simp only[List.map_cons,List.map_nil,BR,D,E]
        .split at b
         .rename_i N
          cases f:AD o.frm with
          |none=>exact absurd f (n.2 (by rw[N];rfl))
          |some k=>
           rw[f,Option.getD_some]at b
           cases c:Ah t k with
           |none=>rw[c]at b;cases b
           |some u=>
            rw[c]at b;obtain⟨g,rfl,rfl,r⟩:=Fd b;exact one (Na h (h.lead c) i g)
         .cases c:Ah t s with
          |none=>rw[c]at b;cases b
          |some u=>
           rw[c]at b;simp only at b;split at b
           .injection b with b j;subst b;subst j;exact⟨[],rfl⟩
           .cases b
theorem Ik:∀{a b:List Bq} {t:Tr} {u:List CW} {i:Nat},BR t u i (a++b)=match BR t u i a with
  | .no e k=> .no e k
  | .yes c d=>BR c d (i+a.length) b
 |[],b,t,u,i=>by simp[BR]
 |o::a,b,t,u,i=>by
  simp only[Qo,BR]
  cases Gz t o with
  |no e=>rfl
  |yes f v=>
   simp only;rw[Ik (a:=a),Qj,Nat.add_assoc i 1,Nat.add_comm 1]
theorem Fo:∀{l:List Bq} {t:Tr} {u:List CW} {i:Nat},BR t u i l=match BR t [] 0 l with
  | .no e k=> .no e (i+k)
  | .yes a v=> .yes a (v++u)
 |[],t,u,i=>rfl
 |o::l,t,u,i=>by
  simp only[BR]
  cases Gz t o with
  |no e=>rfl
  |yes b v=>
   simp only[Nat.zero_add,List.append_nil];rw[Fo (l:=l) (u:=v++u),Fo (l:=l) (u:=v) (i:=1)]
   cases BR b [] 0 l with
   |no e k=>simp only[Nat.add_assoc]
   |yes c d=>simp only[List.append_assoc]
theorem Su:∀{l:List Bq} {t d:Tr} {v:List CW},Bt t->(∀o∈l,ZL o)->BR t [] 0 l= .yes d v->∃U,BR d [] 0 (v.map CW.toI)= .yes t U
 |[],t,d,v,_,_,a=>by simp only[BR]at a;injection a with j b;subst j;subst b;exact⟨[],rfl⟩
 |o::l,t,d,v,h,f,a=>by
  simp only[BR,List.append_nil]at a
  cases c:Gz t o with
  |no e=>rw[c]at a;cases a
  |yes q w=>
   rw[c]at a;simp only at a;rw[Fo]at a
   cases b:BR q [] 0 l with
   |no e k=>rw[b]at a;cases a
   |yes u y=>
    rw[b]at a;simp only at a
    injection a with g i
    subst g;subst i;obtain⟨r,m⟩:=Su (LX h (f o Zh) c) (fun x p=>f x (by simp[p])) b;obtain⟨s,n⟩:=X3 h (f o Zh) c;rw[List.map_append,Ik,m];simp only;rw[Fo,n];exact⟨_,rfl⟩
def BJ(o:Bq)(sv:Vl):List Vl:=[nI nX o.kind,nG o.path,nG o.frm,sv]
def Cc(w:Wl):List Bq->List Vl->Prop
 |[],xs=>xs=[]
 |o::l,xs=>∃sv ys r,xs=BJ o sv++r/\As w sv 6 o.steps.length ys/\Az w o.steps ys/\Cc w l r
theorem Cc.kept{w w':Wl}(a:Chg w w' []):∀{l:List Bq} {xs:List Vl},Cc w l xs->Cc w' l xs
 |[],_,h=>h
 |o::l,_,⟨sv,ys,r,b,c,d,e⟩=>⟨sv,ys,r,b,c.kept a,d.kept a,e.kept a⟩
theorem Cc.length{w:Wl}:∀{l:List Bq} {xs:List Vl},Cc w l xs->xs.length=l.length*4
 |[],_,h=>by unfold Cc at h;subst h;rfl
 |o::l,_,⟨sv,ys,r,a,_,_,b⟩=>by subst a;have:=b.length;simp[BJ];omega
theorem Cc.append{w:Wl}:∀{l m:List Bq} {xs ys:List Vl},Cc w l xs->Cc w m ys->Cc w (l++m) (xs++ys)
 |[],_,_,_,h,k=>by unfold Cc at h;subst h;exact k
 |o::l,_,_,_,⟨sv,e,r,a,b,c,d⟩,k=>⟨sv,e,r++_,by rw[a,List.append_assoc],b,c,d.append k⟩
theorem Cc.get{w:Wl}:∀{l:List Bq} {xs:List Vl},Cc w l xs->∀(i:Nat) (o:Bq),l[i]? =nM o->
  ∃sv ys,As w sv 6 o.steps.length ys/\Az w o.steps ys/\∀j v,(BJ o sv)[j]? =nM v->xs[i*4+j]? =nM v
 |[],_,_,i,o,b=>by simp at b
 |a::l,_,⟨sv,ys,r,d,e,f,g⟩,i,o,b=>by
  subst d
  cases i with
  |zero=>
   simp at b;subst b;refine⟨sv,ys,e,f,fun j v c=> ?_⟩;have h:j<(BJ a sv).length:=(Qc.1 c).1;rw[Nat.zero_mul,Nat.zero_add,List.getElem?_append_left h,c]
  |succ i=>
   obtain⟨p,q,k,m,n⟩:=g.get i o (by simpa using b);refine⟨p,q,k,m,fun j v c=> ?_⟩;rw[List.getElem?_append_right (by simp[BJ];omega),<-n j v c]
   congr 1
   simp[BJ];omega
def SE(F:Nat->Prop)(a:Vl):Prop:=∀b o n c,a= nS (nM ⟨b,o,nN⟩) n c->F b
def Cr(w:Wl)(F:Nat->Prop):List Ap->List Vl->Prop
 |[],xs=>xs=[]
 |s::l,xs=>∃sk r,xs=AI s sk++r/\As w sk 1 s.keys.length (Ad s.keys)/\SE F sk/\Cr w F l r
def Eh(w:Wl)(F:Nat->Prop):List Bq->List Vl->Prop
 |[],xs=>xs=[]
 |o::l,xs=>∃sv ys r,xs=BJ o sv++r/\As w sv 6 o.steps.length ys/\SE F sv/\Cr w F o.steps ys/\Eh w F l r
theorem As.keptF{w w':Wl}{F:Nat->Prop}{d:Vl}{sz n:Nat}{xs:List Vl}(h:As w d sz n xs)(m:SE F d)(p:BZ F w w'):As w' d sz n xs:=by
 obtain⟨a,c,e,j,k,l⟩:=h;refine⟨a,c,e,j,k,fun i v q=> ?_⟩;obtain⟨b,o,f,g⟩:=l i v q;subst f;exact⟨b,o,rfl,(p b _ (m b o n c e)).trans g⟩
theorem SE.mono{F G:Nat->Prop}{a:Vl}(h:SE F a)(d:∀b,F b->G b):SE G a:=fun b o n c e=>d b (h b o n c e)
theorem Cr.kept{w w':Wl}{F G:Nat->Prop}(d:BZ F w w')(c:∀b,F b->G b):∀{l:List Ap} {xs:List Vl},Cr w F l xs->Cr w' G l xs
 |[],_,h=>h
 |s::l,_,⟨sk,r,e,f,a,g⟩=>⟨sk,r,e,f.keptF a d,a.mono c,g.kept d c⟩
theorem Eh.kept{w w':Wl}{F G:Nat->Prop}(c:BZ F w w')(a:∀b,F b->G b):∀{l:List Bq} {xs:List Vl},Eh w F l xs->Eh w' G l xs
 |[],_,h=>h
 |o::l,_,⟨sv,ys,r,e,f,d,g,i⟩=>⟨sv,ys,r,e,f.keptF d c,d.mono a,g.kept c a,i.kept c a⟩
theorem Cr.toR{w:Wl}{F:Nat->Prop}:∀{l:List Ap} {xs:List Vl},Cr w F l xs->Az w l xs
 |[],_,h=>h
 |s::l,_,⟨sk,r,a,b,_,c⟩=>⟨sk,r,a,b,c.toR⟩
theorem Eh.toIn{w:Wl}{F:Nat->Prop}:∀{l:List Bq} {xs:List Vl},Eh w F l xs->Cc w l xs
 |[],_,h=>h
 |o::l,_,⟨sv,ys,r,a,b,_,c,d⟩=>⟨sv,ys,r,a,b,c.toR,d.toIn⟩
theorem Eh.append{w:Wl}{F:Nat->Prop}:∀{l m:List Bq} {xs ys:List Vl},Eh w F l xs->Eh w F m ys->Eh w F (l++m) (xs++ys)
 |[],_,_,_,h,k=>by unfold Eh at h;subst h;exact k
 |o::l,_,_,_,⟨sv,f,r,a,b,c,d,e⟩,k=>⟨sv,f,r++_,by rw[a,List.append_assoc],b,c,d,e.append k⟩
theorem Eh.length{w:Wl}{F:Nat->Prop}{l:List Bq}{xs:List Vl}(h:Eh w F l xs):xs.length=l.length*4:=h.toIn.length
theorem Cr.append{w:Wl}{F:Nat->Prop}:∀{l m:List Ap} {xs ys:List Vl},Cr w F l xs->Cr w F m ys->Cr w F (l++m) (xs++ys)
 |[],_,_,_,h,k=>by unfold Cr at h;subst h;exact k
 |s::l,_,_,_,⟨sk,r,a,b,c,d⟩,k=>⟨sk,r++_,by rw[a,List.append_assoc],b,c,d.append k⟩
theorem C0(s:Ap)(a:Option Addr)(n c:Nat):∀u∈AI s (nS a n c),u.oneCell'=true:=by
 intro u b;simp only[AI,Qh,List.not_mem_nil,or_false]at b
 rcases b with rfl|rfl|rfl|rfl|rfl|rfl<;>rfl
theorem Cr.one{w:Wl}{F:Nat->Prop}:∀{l:List Ap} {xs:List Vl},Cr w F l xs->∀u∈xs,u.oneCell'=true
 |[],_,h,u,b=>by unfold Cr at h;subst h;cases b
 |s::l,_,⟨sk,r,d,e,_,f⟩,u,b=>by
  subst d;obtain⟨a,c,rfl,_⟩:=e.form
  rcases Qf.1 b with b|b
  .exact C0 s a _ c u b
  .exact f.one u b
theorem Dx(o:Bq)(a:Option Addr)(n c:Nat):∀u∈BJ o (nS a n c),u.oneCell'=true:=by
 intro u b;simp only[BJ,Qh,List.not_mem_nil,or_false]at b
 rcases b with rfl|rfl|rfl|rfl<;>rfl
theorem Cc.one{w:Wl}:∀{l:List Bq} {xs:List Vl},Cc w l xs->∀u∈xs,u.oneCell'=true
 |[],_,h,u,b=>by unfold Cc at h;subst h;cases b
 |o::l,_,⟨sv,ys,r,d,e,_,f⟩,u,b=>by
  subst d;obtain⟨a,c,rfl,_⟩:=e.form
  rcases Qf.1 b with b|b
  .exact Dx o a _ c u b
  .exact f.one u b
def SB:BY:=⟨#[111,112]⟩
def Fj:BY:=⟨#[112,97,116,104]⟩
def Oa:BY:=⟨#[102,114,111,109]⟩
def SZ:BY:=⟨#[118,97,108,117,101]⟩
def Ec(k:Nat):BY:=
 if k=1 then⟨#[97,100,100]⟩else if k=2 then⟨#[114,101,109,111,118,101]⟩else if k=3 then⟨#[114,101,112,108,97,99,101]⟩
 else if k=4 then⟨#[109,111,118,101]⟩else if k=5 then⟨#[99,111,112,121]⟩else if k=6 then⟨#[116,101,115,116]⟩else⟨#[]⟩
def Ze(k:Nat)(a b:BY)(x:Tr):Tr:=
 if k=4\/k=5 then .obj [Oa,SB,Fj] [.text b,.text (Ec k),.text a]
 else if k=1\/k=3\/k=6 then .obj [SB,Fj,SZ] [.text (Ec k),.text a,x]
 else .obj [SB,Fj] [.text (Ec k),.text a]
inductive ZW where
 |no (e:Nat) (at_:Int)
 |yes (t:Tr)
def OK(o:Bq):Tr:=Ze o.kind.toNat o.path o.frm ((AS o.steps).getD .null)
def Sp:List Tr->Nat->List Bq->ZW
 |l,_,[]=> .yes (.list l)
 |l,i,o::r=>if Bn o≠0 then .no (Bn o) i else if(Ag (.list (l++[OK o]))).within=true then Sp (l++[OK o]) (i+1) r else .no 3 i
theorem EK{o:Bq}(h:Bn o=0):(1<=o.kind/\o.kind<=6)/\(∃ts,AD o.path=nM ts)/\(AO o.kind=true->∃ts,AD o.frm=nM ts)/\(AN o.kind=true->∃x,AS o.steps=nM x):=by
 unfold Bn at h;split at h
 .cases h
 .rename_i e
  split at h
  .cases h
  .rename_i a
   split at h
   .cases h
   .rename_i b
    simp only[not_or,not_and]at e a b;refine⟨Zj,Option.ne_none_iff_exists'.1 a.1,fun d=>Option.ne_none_iff_exists'.1 (a.2 d),fun f=> ?_⟩;have:=b f
    cases c:AS o.steps with
    |none=>rw[c]at this;simp at this
    |some x=>exact⟨x,rfl⟩
theorem XY:∀{b:List Bq} {l:List Tr} {i:Nat} {t:Tr},Sp l i b= .yes t->(∀o∈b,Bn o=0)/\t= .list (l++b.map OK)
 |[],l,i,t,h=>by simp only[Sp]at h;injection h with h;exact⟨fun o f=>(by cases f),by simp[h]⟩
 |o::r,l,i,t,h=>by
  simp only[Sp]at h;split at h
  .cases h
  .rename_i c
   split at h
   .obtain⟨d,e⟩:=XY h
    refine⟨fun x a=> ?_,by rw[e];simp⟩
    rcases Qh.1 a with rfl|a
    .simpa using c
    .exact d x a
   .cases h
def f1:Nat:=4607182418800017408
def f2:Nat:=4611686018427387904
def f5:Nat:=4617315517961601024
def f9:Nat:=4621256167635550208
def kA:BY:=⟨#[97]⟩
def kB:BY:=⟨#[98]⟩
def kC:BY:=⟨#[99]⟩
def Fv(b:Nat):Ap:=⟨3,false,b,Dz,0,[]⟩
def Un(n:Int):Ap:=⟨5,false,0,Dz,n,[]⟩
def Y7:Ap:=⟨1,false,0,Dz,0,[]⟩
def Ve(ks:List BY):Ap:=⟨6,false,0,Dz,0,ks⟩
def Ut:List Ap:=[Fv f1,Fv f2,Un 2,Y7,Ve [kC],Ve [kA,kB]]
def T0:Tr:= .obj [kA,kB] [.list [.num f1,.num f2],.obj [kC] [.null]]
def T1:Tr:= .obj [kA] [.list [.num f1,.num f9,.num f2]]
def ar:Tr:= .obj [kA,kB] [.list [.num f1,.num f9,.num f2],.obj [kC] [.null]]
def aC:BY:=⟨#[47,97,47,49]⟩
def pB:BY:=⟨#[47,98]⟩
def k1:BY:=⟨#[49]⟩
def Ln:List Ap:=[Fv f1,Fv f9,Fv f2,Un 3,Ve [kA]]
def Z5:Bq:=⟨1,aC,Dz,[Fv f9]⟩
def ak:Bq:=⟨2,pB,Dz,[]⟩
def DH:List Bq:=[Z5,ak]
def Zf:CW:=⟨1,pB,Dz,Ai (.obj [kC] [.null])⟩
def X2:CW:=⟨2,aC,Dz,[]⟩
def Fa:List CW:=[Zf,X2]
theorem PA:Ut=(Ai T0).map Aw.toI:=rfl
theorem Xb:Hs f1:=⟨ZM,Yb,Yb⟩
theorem Xc:Hs f2:=⟨ZM,Yb,Yb⟩
theorem Xe:Hs f9:=⟨ZM,Yb,Yb⟩
theorem U3:Cy [kA,kB]:=⟨ZM,ZM,ZM,ZM⟩
theorem WJ:Cy [kA]:=⟨ZM,ZM,ZM,ZM⟩
theorem Rc:Cy [kC]:=⟨ZM,ZM,ZM,ZM⟩
theorem LH:Bt T0:=⟨⟨U3,rfl,⟨Xb,Xc,trivial⟩,⟨Rc,rfl,trivial,trivial⟩,trivial⟩,ZM⟩
theorem fk:Bt (.num f9):=⟨Xe,ZM⟩
theorem TZ{p:UInt8->Bool}:∀(l r:List UInt8),l.all p=true->(l++r).takeWhile p=l++r.takeWhile p/\(l++r).dropWhile p=r.dropWhile p
 |[],r,_=>⟨rfl,rfl⟩
 |c::l,r,h=>by
  simp only[List.all_cons,Bool.and_eq_true]at h;obtain⟨a,b⟩:=TZ l r h.2;rw[Qo,List.takeWhile_cons,List.dropWhile_cons,Qr h.1,Qr h.1,a,b];exact⟨rfl,rfl⟩
theorem Sr(l:List UInt8)(h:l.all Bc=true)(c:UInt8):CE (c::l)=[Ct l]:=by
 rw[CE];have e:=TZ l [] h;rw[List.append_nil]at e;rw[e.1,e.2];simp[CE]
theorem X0(a b:List UInt8)(h:a.all Bc=true)(c:UInt8):CE (c::(a++47::b))=Ct a::CE (47::b):=by
 rw[CE];have d:Bc 47=false:=rfl;have e:=TZ a (47::b) h;rw[e.1,e.2,List.takeWhile_cons,List.dropWhile_cons];simp[d]
theorem RK{s:BY}{ts:List (List UInt8)}(a:CY s.data.toList=true)(b:BH s.data.toList=true)(c:A4 s.data.toList=true)(d:s.data.toList.count 47<=65536)(h:CE s.data.toList=ts):
  AD s=nM (ts.map fun t=>⟨t.toArray⟩):=by
 unfold AD;rw[Qr ⟨by rw[E8];exact a,b,c,d⟩,h]
theorem Xx:AD aC=nM [kA,k1]:=
 RK (ts:=[[97],[49]]) ZM ZM ZM ZM (by
  show CE (47::([97]++47::[49]))=_
  rw[X0 _ _ ZM,Sr _ ZM];rfl)
theorem YK:AD pB=nM [kB]:=
 RK (ts:=[[98]]) ZM ZM ZM ZM (by
  show CE (47::[98])=_
  rw[Sr _ ZM];rfl)
theorem P4:AS [Fv f9]=nM (.num f9):=FE (t:= .num f9) fk.good fk.fits
theorem au:Gz T0 Z5= .yes ar [X2]:=by
 rw[Gd (ts:=[kA,k1]) ZM rfl Xx (fun _=>by show(AS [Fv f9]).isSome=true;rw[P4];rfl)]
 show Da T0 Z5 [kA,k1] _ ((AS [Fv f9]).getD .null)=_
 rw[P4];rfl
theorem av:Gz ar ak= .yes T1 [Zf]:=by
 rw[Gd (ts:=[kB]) ZM rfl YK (fun h=>by cases h)];rfl
theorem KL:BR T0 [] 0 DH= .yes T1 Fa:=by
 unfold DH BR;rw[au]
 show BR ar [X2] 1 [ak]=_
 unfold BR;rw[av];rfl
theorem Lj:∀o∈DH,ZL o:=by
 have d:(0:Int)<=9223372036854775807:=ZM
 intro o b;simp only[DH,Qh,List.not_mem_nil,or_false]at b
 rcases b with rfl|rfl
 .refine⟨ZM,ZM,fun s a=> ?_⟩
  simp only[Z5,Qh,List.not_mem_nil,or_false]at a;subst a;exact⟨ZM,ZM,ZM,(fun k c=>by cases c),ZM,ZM⟩
 .exact⟨ZM,ZM,fun s a=>by cases a⟩
theorem T5:∃U,BR T1 [] 0 (Fa.map CW.toI)= .yes T0 U:=Su LH Lj KL
end
section
open _root_.Go.Proofs.Tryz
open Go Go.RowKit Tree Ptr
def MF:List Char:=[Char.ofNat 97,Char.ofNat 102,Char.ofNat 102,Char.ofNat 105,Char.ofNat 100,Char.ofNat 97,Char.ofNat 118,Char.ofNat 105,Char.ofNat 116,Char.ofNat 47,Char.ofNat 112,Char.ofNat 97,Char.ofNat 116,Char.ofNat 99,Char.ofNat 104,Char.ofNat 46]
def J8:String:=String.ofList (MF++[Char.ofNat 115,Char.ofNat 105,Char.ofNat 122,Char.ofNat 101])
def EB:String:=String.ofList (MF++[Char.ofNat 115,Char.ofNat 116,Char.ofNat 101,Char.ofNat 112,Char.ofNat 115])
def GK:String:=String.ofList (MF++[Char.ofNat 99,Char.ofNat 111,Char.ofNat 112,Char.ofNat 105,Char.ofNat 101,Char.ofNat 100])
theorem results_tmp3{b:Func}{t u v:Tmp}(h:b.results=#[.tmp t,.tmp u,.tmp v])(a:Array Vl)(P:Program)(w:Wl):
  (results b a).run P w= .ok (nT #[a.getD t undef,a.getD u undef,a.getD v undef]) w:=by
 simp[results,h]
def Jv(s:Sz):Vl:= nT #[nI nX s.nodes,nI nX s.bytes,nI nX s.depth]
theorem RD(sv:Vl)(s:BY)(b:Bool)(c:∃a x,sv= nF a x)(d:∀w,(Instr.typeAssert sv 181 179 true).run prog w= .ok (nT #[nG s,.bool b]) w)(w:Wl):
  Cl prog 321 #[nA #[sv]] w fun e w'=>e= nR (Jv ⟨1,s.size,1⟩)/\Chg w w' []:=by
 obtain⟨a,x,rfl⟩:=c;go_enter func321,ntmps321
 go_wp2
 refine bodyPost_ret (results_tmp3 rfl _ _ _) rfl ⟨rfl,by exact cg cR⟩
theorem VB(v:Vl)(w:Wl):(callMethod (nF 183 (nA #[v])) J8 #[]).run prog w= .ok (.enter 321 #[nA #[v]]) w:=Yb
theorem VC(b:Nat)(w:Wl):(callMethod (nF 104 (nP (nM ⟨b,0,nN⟩))) J8 #[]).run prog w= .ok (.enter 303 #[nP (nM ⟨b,0,nN⟩)]) w:=Yb
theorem Se(b:Nat)(w:Wl):(callMethod (nF 175 (nP (nM ⟨b,0,nN⟩))) J8 #[]).run prog w= .ok (.enter 316 #[nP (nM ⟨b,0,nN⟩)]) w:=Yb
def JB(v:Vl)(s:Sz)(w:Wl):Prop:=∃f args,(callMethod v J8 #[]).run prog w= .ok (.enter f args) w/\Cl prog f args w fun e w'=>e= nR (Jv s)/\Chg w w' []
theorem KW{l:List Tr}(h:∀u∈l,(Ag u).within=true)(k:Nat):(Bk (l.take k)).nodes<=65536*l.length/\(Bk (l.take k)).bytes<=2097152*l.length/\(Bk (l.take k)).depth<=512:=by
 have b:=(EJ.take (l:=l) h k).sum;have a:(l.take k).length<=l.length:=by rw[Ql];omega
 have:=Nat.mul_le_mul_left 65536 a;have:=Nat.mul_le_mul_left 2097152 a;omega
theorem Ld(l:List Tr)(vs:List Vl)(fs:List Nat)(b:Nat)(a:Option Addr)(c:Nat)(w:Wl)(hb:w.cell? ⟨b,0,nN⟩=nM (nS a vs.length c))(L:AK w (nS a vs.length c) 95 vs)(s:PsAt w l vs fs)(P:∀u∈l,(Ag u).within=true)(hl:l.length<=65536)(I:∀u v o w',u∈l->AP w' u v o->JB v (Ag u) w'):
  Cl prog 303 #[nP (nM ⟨b,0,nN⟩)] w fun e w'=>e= nR (Jv ((Bk l).over 0))/\Chg w w' []:=by
 have ad:=s.length;have F:=hZ L;have Z:=hZ s;have X:=hZ I;have E:=hZ P;have lb:=World.block_lt_of_cell? w _ hb;clear L s I P;go_enter func303,ntmps303
 go_wp2
 go_loopw [2,3,4,15] (fun v2 v3 v4 B wr=>∃k:Nat,k<=vs.length/\v2= nI nX (Bk (l.take k)).nodes/\v3= nI nX (Bk (l.take k)).bytes/\v4= nI nX (Bk (l.take k)).depth/\B= nI nX k/\Chg w wr [])
  (fun _ _ _ B _=>vs.length-(intOf B).toNat)
 case atStart=>exact⟨0,Zj,by simp[Bk],by simp[Bk],by simp[Bk],rfl,Chg.refl _ _⟩
 case round=>
  obtain⟨k,hk,rfl,rfl,rfl,rfl,Q⟩:=hrel;have n:=KW E.o k;obtain⟨N,r⟩:=Ue ((Bk (l.take k)).nodes)
  obtain⟨M,q⟩:=Ue ((Bk (l.take k)).bytes)
  obtain⟨D,p⟩:=Ue ((Bk (l.take k)).depth)
  rw[<-r,<-q,<-p]at n|-;have H:=hZ r;have G:=hZ q;have C:=hZ p;clear r q p;have n1:N<=4294967296:=Zj
  have n2:M<=137438953472:=Zj
  have n3:D<=512:=n.2.2;clear n;have h:=hZ Q;clear Q;by_cases aa:k<vs.length
  .have y:k<l.length:=by omega
   obtain⟨u,j⟩:∃u,l[k]? =nM u:=⟨_,Q9 y⟩
   obtain⟨v,o,V,U,_⟩:=Z.o.get j
   obtain⟨g,rfl⟩:∃g,a=nM ⟨g,0,nN⟩:=by
    obtain⟨a',c',e,h⟩:=F.o.form
    injection e with i
    subst i;exact h (by intro e;subst e;simp at aa)
   have ab:wr.cell? ⟨g,k,nN⟩=nM v:=h.o.keeps (F.o.cell rfl k v V);have z:=U.chg h.o Zh;have A:=Qi j;obtain⟨ti,x,rfl⟩:=z.iface;obtain⟨f,args,S,O⟩:=X.o u _ o wr A z;have Y:=hZ S;have d:=Ar (E.o u A);obtain⟨S,t⟩:=Ue (Ag u)
   rw[<-t]at d O;obtain⟨s1,s2,s3⟩:=S;simp only at d;obtain⟨d,ae,w3⟩:=d
   have T:Bk (l.take (k+1))=⟨N+s1,M+s2,max D s3⟩:=by
    rw[BM j,<-t];unfold Sz.add;rw[<-H.o,<-G.o,<-C.o]
   have m:=hZ T;clear T S V U z t j A
   go_wp2_with(first
    |(refine Am rfl _ _ _ rfl _ rfl f args Y.o _ O ?_;rintro e d ⟨rfl,R⟩;refine⟨_,rfl, ?_⟩;unfold Jv;have W:=hZ R;clear R))
   go_roundw
   case rel=>
    refine⟨k+1,Zj, ?_, ?_, ?_,by go_num,h.o.trans W.o⟩
    .rw[m.o];simp
    .rw[m.o];simp
    .rw[m.o];simp;omega
   case measure=>simp[intOf];omega
  .go_wp2
   refine bodyPost_ret (results_tmp3 rfl _ _ _) rfl ?_;have y:l.take k=l:=Qn Zj;have i:=H.o;have J:=G.o;have K:=C.o;rw[y]at i J K;subst i;subst J;subst K;refine⟨?_,h.o⟩;unfold Jv Sz.over;simp;omega
end
section
open Go Go.RowKit Tree Ptr
structure Nj(bs:List Nat)(G:Nat->Prop)(sv:Vl)(n:Nat)(l:List Ap)(xs:List Vl)(w:Wl):Prop where
 lst:Ba w sv 72 6 n xs
 at_:Cr w G l xs
 own:∀g,sv.ownBlock=nM g->g∉bs/\¬G g
 ltG:∀b,G b->b<w.heap.size
def MW(t:Tr):List Ap:=(Ai t).map Aw.toI
def KH(l:List Tr):List Ap:=(BI l).map Aw.toI
def CJ(G:Nat->Prop)(sv:Vl)(n m:Nat)(l:List Ap)(w:Wl)(e:Ending)(w':Wl):Prop:=
 ∃c a d,e= nR c/\Ba w' c 72 6 (n+m) d/\Cr w' a l d/\Chg w w' sv.ownBlock.toList/\
  (∀g,c.ownBlock=nM g->sv.ownBlock=nM g\/w.heap.size<=g)/\(∀b,G b->a b)/\(∀b,a b->b<w.heap.size->G b)/\(∀b,a b->b<w'.heap.size)/\(∀g,c.ownBlock=nM g->¬a g)
theorem Nj.kept{bs:List Nat}{G:Nat->Prop}{sv:Vl}{n:Nat}{l:List Ap}{xs:List Vl}{w w':Wl}(h:Nj bs G sv n l xs w)(a:Chg w w' []):Nj bs G sv n l xs w':=
 ⟨h.lst.kept a,h.at_.kept (a.keepsF h.ltG) (fun _ h=>h),h.own,fun b c=>Q6 (h.ltG b c) a.size⟩
theorem Nj.sub{bs cs:List Nat}{G:Nat->Prop}{sv:Vl}{n:Nat}{l:List Ap}{xs:List Vl}{w:Wl}(h:Nj bs G sv n l xs w)(d:∀b,b∈cs->b∈bs):Nj cs G sv n l xs w:=
 ⟨h.lst,h.at_,fun g a=>⟨fun c=>(h.own g a).1 (d g c),(h.own g a).2⟩,h.ltG⟩
theorem CJ.inn{bs:List Nat}{G:Nat->Prop}{sv:Vl}{n m:Nat}{l k:List Ap}{xs:List Vl}{w w':Wl}{e:Ending}(p:Nj bs G sv n l xs w)(o:∀b,b∈bs->b<w.heap.size)(h:CJ G sv n m k w e w'):
  ∃c a d,e= nR c/\Nj bs a c (n+m) k d w'/\Chg w w' sv.ownBlock.toList/\(∀g,c.ownBlock=nM g->sv.ownBlock=nM g\/w.heap.size<=g)/\(∀b,G b->a b)/\(∀b,a b->b<w.heap.size->G b):=by
 obtain⟨c,a,d,rfl,q,r,s,j,t,u,v,x⟩:=h;refine⟨c,a,d,rfl,⟨q,r,fun g f=>⟨fun i=> ?_,x g f⟩,v⟩,s,j,t,u⟩
 rcases j g f with h|h
 .exact(p.own g h).1 i
 .have:=o g i;omega
theorem CJ.step{G a:Nat->Prop}{sv o:Vl}{n m k:Nat}{l:List Ap}{w wr w':Wl}{e:Ending}(p:∀b,G b->a b)(q:∀b,a b->b<w.heap.size->G b)(d:Chg w wr sv.ownBlock.toList)(i:∀g,o.ownBlock=nM g->sv.ownBlock=nM g\/w.heap.size<=g)(h:CJ a o (n+m) k l wr e w'):CJ G sv n (m+k) l w e w':=by
 obtain⟨C,G2,D,rfl,t,u,v,x,y,z,A,B⟩:=h;refine⟨C,G2,D,rfl,by rw[<-Nat.add_assoc];exact t,u, ?_, ?_,fun b c=>y b (p b c),fun b c f=>q b (z b c (Q6 f d.size)) f,A,B⟩
 .refine d.step v fun j s f=> ?_
  rcases i j (by simpa using s)with h|h
  .simpa using h
  .omega
 .intro g r
  rcases x g r with h|h
  .exact i g h
  .exact .inr (Q7 d.size h)
theorem CJ.same{bs:List Nat}{G:Nat->Prop}{sv:Vl}{n:Nat}{l:List Ap}{xs:List Vl}{w w':Wl}(h:Nj bs G sv n l xs w)(c:Chg w w' []):CJ G sv n 0 l w (nR sv) w':=by
 have a:=h.kept c;exact⟨sv,G,xs,rfl,a.lst,a.at_,c.none _,fun g b=> .inl b,fun _ h=>h,fun _ h _=>h,a.ltG,fun g b=>(h.own g b).2⟩
theorem KS{w:Wl}{F:Nat->Prop}(s:Ap)(sk:Vl)(b:As w sk 1 s.keys.length (Ad s.keys))(a:SE F sk):Cr w F [s] (AI s sk):=
 ⟨sk,[],Zh,b,a,rfl⟩
theorem CJ.put{bs:List Nat}{G G2:Nat->Prop}{sv:Vl}{n:Nat}{l:List Ap}{xs:List Vl}{w a w2:Wl}{s:Ap}{sk:Vl}{g f:Nat}(o:Nj bs G sv n l xs w)(i:Chg w a [])(u:Ba w2 (nS (nM ⟨g,0,nN⟩) (n+1) f) 72 6 (n+1) (xs++AI s sk))(d:Chg a w2 sv.ownBlock.toList)(v:sv.ownBlock=nM g\/w.heap.size<=g)(y:As a sk 1 s.keys.length (Ad s.keys))(m:SE G2 sk)(j:∀b,G b->G2 b)(r:∀b,G2 b->b<w.heap.size->G b)(p:∀b,G2 b->b<a.heap.size)(z:¬G2 g)(A:∀g,sv.ownBlock=nM g->¬G2 g):
  CJ G sv n 1 (l++[s]) w (nR (nS (nM ⟨g,0,nN⟩) (n+1) f)) w2:=by
 have t:BZ G w a:=i.keepsF o.ltG;have k:BZ G2 a w2:=d.keepsF p (fun b e x=>A b (by simpa using e) x);refine⟨_,G2,_,rfl,u, ?_,(i.none _).trans d, ?_,j,r,fun b e=>Q6 (p b e) d.size, ?_⟩
 .exact((o.at_.kept t j).kept k (fun _ h=>h)).append (KS s sk (y.keptF m k) m)
 .intro q c
  simp[Vl.ownBlock]at c;subst c;exact v
 .intro q c
  simp[Vl.ownBlock]at c;subst c;exact z
end
section
open _root_.Go.Proofs.Tryz
open Go Go.RowKit Tree Ptr
structure Hr(ks:List BY)(s:BY)(i:Nat):Prop where
 yes:C4 ks s=true->i=A5 ks s/\i<ks.length/\ks[i]? =nM s
 no:C4 ks s=false->s∉ks/\i<=ks.length/\(∀t k,t<i->ks[t]? =nM k->Utf.BK k s<0)/\(∀t k,i<=t->ks[t]? =nM k->0<=Utf.BK k s)
theorem Hr.of{ks:List BY}{s:BY}{w w':Wl}{e:Ending}(h:KQ ks s w e w')(m:Cy ks):∃i:Nat,e= nR (nT #[nI nX i,.bool (C4 ks s)])/\Chg w w' []/\Hr ks s i/\i<=ks.length:=by
 obtain⟨i,ok,j,k,a,b,c,f,g⟩:=h
 have o:ok=C4 ks s:=by
  cases ok with
  |true=>
   have:=Cp.2 (Qi (a rfl));exact this.symm
  |false=>
   have:=b rfl
   cases l:C4 ks s with
   |true=>exact absurd (Cp.1 l) this
   |false=>rfl
 subst o;refine⟨i,j,k,⟨fun p=> ?_,fun n=>⟨b n,c,f,g⟩⟩,c⟩;have hi:=a p;obtain⟨d,e⟩:=Qc.1 hi;have:=GU m.nodup i d;rw[e]at this;exact⟨this.symm,d,hi⟩
theorem Pl(ks:List BY)(s:BY)(b:Nat)(sv sk:Vl)(w:Wl)(d:Ac w b [sv,sk] 177)(a:AK w sk 9 (Ad ks))(n:Cy ks)(v:Utf.Al s=true)(x:s.size<=2147483648):
  Cl prog 197 #[nP (nM ⟨b,0,nN⟩),nG s] w fun e w'=>∃i:Nat,e= nR (nT #[nI nX i,.bool (C4 ks s)])/\Chg w w' []/\Hr ks s i/\i<=ks.length:=by
 obtain⟨f,j,rfl,_⟩:=a.form;rw[Ao]at d a;have y:w.cell? ⟨b,1,nN⟩=nM (nS f ks.length j):=d.cell 1
 have t:=UD (∀c,Chg w c []->Cl prog 182 #[nS f ks.length j,nG s,.func (.func 157) #[] #[]] c fun e w'=>∃i:Nat,e= nR (nT #[nI nX i,.bool (C4 ks s)])/\Chg c w' []/\Hr ks s i/\i<=ks.length) fun c o=>
  (J7 (fun g=>(Vl.slice f ks.length j).ownBlock=nM g) _ ks s c (a.kept o).toRow (fun g u=>(a.kept o).lt u) n v x).mono fun e w' h=>Hr.of h n
 clear d a;go_enter func197,ntmps197
 go_wp2_with(first
  |(go_at_call 182;refine(t.o _ (by exact cg cR)).mono ?_;rintro e z ⟨i,rfl,k,l,m⟩;have p:=hZ k;have q:=hZ l;have r:=hZ m;clear k l m))
 refine bodyPost_ret (results_tmp2 rfl _ _ _) rfl ⟨i,Zh,by exact cg p.o,q.o,r.o⟩
theorem MU(w:Wl):(callMethod (nF 271 (nA #[])) "Sort" #[]).run prog w= .ok (.enter 336 #[nA #[]]) w:=Yb
theorem MT(b:Bool)(w:Wl):(callMethod (nF 272 (.bool b)) "Sort" #[]).run prog w= .ok (.enter 338 #[.bool b]) w:=Yb
theorem NM(b:Nat)(w:Wl):(callMethod (nF 273 (.float .f64 b)) "Sort" #[]).run prog w= .ok (.enter 340 #[.float .f64 b]) w:=Yb
theorem MV(b:BY)(w:Wl):(callMethod (nF 179 (nG b)) "Sort" #[]).run prog w= .ok (.enter 319 #[nG b]) w:=Yb
theorem Nl(w:Wl):Cl prog 336 #[nA #[]] w fun e w'=>e= nR (nI nX 1)/\Chg w w' []:=by
 go_enter func336,ntmps336
 go_wp2
 go_ret
 exact⟨rfl,by exact cg cR⟩
theorem Nk(b:Bool)(w:Wl):Cl prog 338 #[.bool b] w fun e w'=>e= nR (nI nX 2)/\Chg w w' []:=by
 go_enter func338,ntmps338
 go_wp2
 go_ret
 exact⟨rfl,by exact cg cR⟩
theorem OT(b:Nat)(w:Wl):Cl prog 340 #[.float .f64 b] w fun e w'=>e= nR (nI nX 3)/\Chg w w' []:=by
 go_enter func340,ntmps340
 go_wp2
 go_ret
 exact⟨rfl,by exact cg cR⟩
theorem Nm(b:BY)(w:Wl):Cl prog 319 #[nG b] w fun e w'=>e= nR (nI nX 4)/\Chg w w' []:=by
 go_enter func319,ntmps319
 go_wp2
 go_ret
 exact⟨rfl,by exact cg cR⟩
theorem Ba.slots{w:Wl}{sv:Vl}{e:Ti}{sz n:Nat}{xs:List Vl}(h:Ba w sv e sz n xs):∃a c,sv= nS a n c:=by
 obtain⟨a,c,h,_⟩:=h.form;exact⟨a,c,h⟩
theorem JW(G:Nat->Prop)(sv:Vl)(n:Nat)(l:List Ap)(xs:List Vl)(w:Wl)(r:Nj [] G sv n l xs w)(I:n+1<=4294967296):
  Cl prog 322 #[nA #[AG .null],sv] w (CJ G sv n 1 (l++MW .null) w):=by
 obtain⟨K,L,rfl⟩:=r.lst.slots;have M:∀(w:Wl),(Instr.typeAssert (nF 271 (nA #[])) 181 272 true).run prog w= .ok (nT #[.bool false,.bool false]) w:=fun _=>Yb
 have N:∀(w:Wl),(Instr.typeAssert (nF 271 (nA #[])) 181 273 true).run prog w= .ok (nT #[.float .f64 0,.bool false]) w:=fun _=>Yb
 have O:∀(w:Wl),(Instr.typeAssert (nF 271 (nA #[])) 181 179 true).run prog w= .ok (nT #[nG ⟨#[]⟩,.bool false]) w:=fun _=>Yb
 have a:=hZ r;have t:=UD ((n+1)*72<=140737488355328/\n<=140737488355328) ⟨Zj,Zj⟩;clear r I;unfold AG;go_enter func322,ntmps322
 go_upto_region 12 with(first
  |(refine Am rfl _ _ _ rfl _ rfl 336 #[nA #[]] (MU _) _ (Nl _) ?_;rintro e d ⟨rfl,f⟩;refine⟨_,rfl, ?_⟩;have E:d.cell? ⟨w.heap.size,0,nN⟩=nM (nF 271 (nA #[])):=f.keeps (Bx rfl _ _);have J:w.heap.size<d.heap.size:=by have:=f.size;simp at this;omega)
  |(go_at_call 323;refine(Pj _ _).mono ?_;rintro e S ⟨rfl,rfl⟩))
 obtain⟨X,q⟩:=Ue d.heap.size
 obtain⟨m,k⟩:=Ue (d.alloc (nC (AI (Aa .null).toI (nS nN 0 0)).toArray 72))
 have D:Hid (Ac m X (AI (Aa .null).toI (nS nN 0 0)) 72):=by rw[k,q];exact hZ (Ac.new _ _ _)
 have p:Hid (Chg w m []):=by rw[k];exact hZ (((Chg.refl w []).alloc _).trans f|>.alloc _)
 change Code.wp _ _ _ _ (d.alloc (nC (AI (Aa .null).toI (nS nN 0 0)).toArray 72));rw[<-k,<-q];obtain⟨xl,xf,T,U,V,W,Y,Z⟩:=D.o.cells6;clear k q f E J
 go_wp2_with(first
  |(at_builtin;go_loud(refine Bg rfl _ _ _ rfl 72 Iq 6 72 ZM underlying22 DM rfl (nS K n L) n xs ZN (by exact a.o.lst.kept (bs:=[]) (by exact cg p.o) Zh) m.heap.size (AI (Aa .null).toI (nS nN 0 0)) ZN rfl (by intro j v s;exact((Ac.new m (AI (Aa .null).toI (nS nN 0 0)) 72).cell j).trans s) (C0 _ _ _ _) t.o.1 t.o.2 ?_);intro g P R z x A;have C:=hZ z;have B:=hZ x;have u:=hZ A;clear z x A))
 go_ret
 have Q:=p.o.size;refine CJ.put (sk:= nS nN 0 0) (G2:=G) a.o (p.o.alloc _) C.o B.o ?_ ⟨nN,0,rfl,Q8 _,rfl,fun i v s=>by simp[Ad,Aa,Aw.toI]at s⟩ (fun b o n c e=>by cases e) (fun _ h=>h) (fun _ h _=>h) (fun b F=> ?_) ?_ (fun g H=>(a.o.own g H).2)
 .rcases u.o with h|h
  .exact .inl h
  .right;rw[World.size_alloc]at h;omega
 .have:=a.o.ltG b F;simp;omega
 .intro y
  rcases u.o with h|h
  .exact(a.o.own _ h).2 y
  .have:=a.o.ltG _ y;rw[World.size_alloc]at h;omega
theorem JV(b:Bool)(G:Nat->Prop)(sv:Vl)(n:Nat)(l:List Ap)(xs:List Vl)(w:Wl)(r:Nj [] G sv n l xs w)(I:n+1<=4294967296):
  Cl prog 322 #[nA #[AG (.flag b)],sv] w (CJ G sv n 1 (l++MW (.flag b)) w):=by
 obtain⟨K,L,rfl⟩:=r.lst.slots;have M:∀(w:Wl),(Instr.typeAssert (nF 272 (.bool b)) 181 272 true).run prog w= .ok (nT #[.bool b,.bool true]) w:=fun _=>Yb
 have a:=hZ r;have t:=UD ((n+1)*72<=140737488355328/\n<=140737488355328) ⟨Zj,Zj⟩;clear r I;unfold AG;go_enter func322,ntmps322
 go_upto_region 12 with(first
  |(refine Am rfl _ _ _ rfl _ rfl 338 #[.bool b] (MT b _) _ (Nk b _) ?_;rintro e d ⟨rfl,f⟩;refine⟨_,rfl, ?_⟩;have E:d.cell? ⟨w.heap.size,0,nN⟩=nM (nF 272 (.bool b)):=f.keeps (Bx rfl _ _);have J:w.heap.size<d.heap.size:=by have:=f.size;simp at this;omega)
  |(go_at_call 323;refine(Pj _ _).mono ?_;rintro e Q ⟨rfl,rfl⟩))
 obtain⟨X,q⟩:=Ue d.heap.size
 obtain⟨m,k⟩:=Ue (d.alloc (nC (AI (Aa (.flag b)).toI (nS nN 0 0)).toArray 72))
 have D:Hid (Ac m X (AI (Aa (.flag b)).toI (nS nN 0 0)) 72):=by rw[k,q];exact hZ (Ac.new _ _ _)
 have p:Hid (Chg w m []):=by rw[k];exact hZ (((Chg.refl w []).alloc _).trans f|>.alloc _)
 change Code.wp _ _ _ _ (d.alloc (nC (AI (Aa (.flag b)).toI (nS nN 0 0)).toArray 72));rw[<-k,<-q];obtain⟨Z,Y,R,S,T,U,V,W⟩:=D.o.cells6;clear k q f E J
 go_wp2_with(first
  |(at_builtin;go_loud(refine Bg rfl _ _ _ rfl 72 Iq 6 72 ZM underlying22 DM rfl (nS K n L) n xs ZN (by exact a.o.lst.kept (bs:=[]) (by exact cg p.o) Zh) m.heap.size (AI (Aa (.flag b)).toI (nS nN 0 0)) ZN rfl (by intro j v s;exact((Ac.new m (AI (Aa (.flag b)).toI (nS nN 0 0)) 72).cell j).trans s) (C0 _ _ _ _) t.o.1 t.o.2 ?_);intro g N P z x A;have C:=hZ z;have B:=hZ x;have u:=hZ A;clear z x A))
 go_ret
 have O:=p.o.size;refine CJ.put (sk:= nS nN 0 0) (G2:=G) a.o (p.o.alloc _) C.o B.o ?_ ⟨nN,0,rfl,Q8 _,rfl,fun i v s=>by simp[Ad,Aa,Aw.toI]at s⟩ (fun b o n c e=>by cases e) (fun _ h=>h) (fun _ h _=>h) (fun b F=> ?_) ?_ (fun g H=>(a.o.own g H).2)
 .rcases u.o with h|h
  .exact .inl h
  .right;rw[World.size_alloc]at h;omega
 .have:=a.o.ltG b F;simp;omega
 .intro y
  rcases u.o with h|h
  .exact(a.o.own _ h).2 y
  .have:=a.o.ltG _ y;rw[World.size_alloc]at h;omega
theorem Ky(b:Nat)(G:Nat->Prop)(sv:Vl)(n:Nat)(l:List Ap)(xs:List Vl)(w:Wl)(r:Nj [] G sv n l xs w)(I:n+1<=4294967296):
  Cl prog 322 #[nA #[AG (.num b)],sv] w (CJ G sv n 1 (l++MW (.num b)) w):=by
 obtain⟨K,L,rfl⟩:=r.lst.slots;have M:∀(w:Wl),(Instr.typeAssert (nF 273 (.float .f64 b)) 181 272 true).run prog w= .ok (nT #[.bool false,.bool false]) w:=fun _=>Yb
 have N:∀(w:Wl),(Instr.typeAssert (nF 273 (.float .f64 b)) 181 273 true).run prog w= .ok (nT #[.float .f64 b,.bool true]) w:=fun _=>Yb
 have a:=hZ r;have t:=UD ((n+1)*72<=140737488355328/\n<=140737488355328) ⟨Zj,Zj⟩;clear r I;unfold AG;go_enter func322,ntmps322
 go_upto_region 12 with(first
  |(refine Am rfl _ _ _ rfl _ rfl 340 #[.float .f64 b] (NM b _) _ (OT b _) ?_;rintro e d ⟨rfl,f⟩;refine⟨_,rfl, ?_⟩;have E:d.cell? ⟨w.heap.size,0,nN⟩=nM (nF 273 (.float .f64 b)):=f.keeps (Bx rfl _ _);have J:w.heap.size<d.heap.size:=by have:=f.size;simp at this;omega)
  |(go_at_call 323;refine(Pj _ _).mono ?_;rintro e R ⟨rfl,rfl⟩))
 obtain⟨X,q⟩:=Ue d.heap.size
 obtain⟨m,k⟩:=Ue (d.alloc (nC (AI (Aa (.num b)).toI (nS nN 0 0)).toArray 72))
 have D:Hid (Ac m X (AI (Aa (.num b)).toI (nS nN 0 0)) 72):=by rw[k,q];exact hZ (Ac.new _ _ _)
 have p:Hid (Chg w m []):=by rw[k];exact hZ (((Chg.refl w []).alloc _).trans f|>.alloc _)
 change Code.wp _ _ _ _ (d.alloc (nC (AI (Aa (.num b)).toI (nS nN 0 0)).toArray 72));rw[<-k,<-q];obtain⟨xl,Z,S,T,U,V,W,Y⟩:=D.o.cells6;clear k q f E J
 go_wp2_with(first
  |(at_builtin;go_loud(refine Bg rfl _ _ _ rfl 72 Iq 6 72 ZM underlying22 DM rfl (nS K n L) n xs ZN (by exact a.o.lst.kept (bs:=[]) (by exact cg p.o) Zh) m.heap.size (AI (Aa (.num b)).toI (nS nN 0 0)) ZN rfl (by intro j v s;exact((Ac.new m (AI (Aa (.num b)).toI (nS nN 0 0)) 72).cell j).trans s) (C0 _ _ _ _) t.o.1 t.o.2 ?_);intro g O Q z x A;have C:=hZ z;have B:=hZ x;have u:=hZ A;clear z x A))
 go_ret
 have P:=p.o.size;refine CJ.put (sk:= nS nN 0 0) (G2:=G) a.o (p.o.alloc _) C.o B.o ?_ ⟨nN,0,rfl,Q8 _,rfl,fun i v s=>by simp[Ad,Aa,Aw.toI]at s⟩ (fun b o n c e=>by cases e) (fun _ h=>h) (fun _ h _=>h) (fun b F=> ?_) ?_ (fun g H=>(a.o.own g H).2)
 .rcases u.o with h|h
  .exact .inl h
  .right;rw[World.size_alloc]at h;omega
 .have:=a.o.ltG b F;simp;omega
 .intro y
  rcases u.o with h|h
  .exact(a.o.own _ h).2 y
  .have:=a.o.ltG _ y;rw[World.size_alloc]at h;omega
theorem JX(b:BY)(G:Nat->Prop)(sv:Vl)(n:Nat)(l:List Ap)(xs:List Vl)(w:Wl)(r:Nj [] G sv n l xs w)(I:n+1<=4294967296):
  Cl prog 322 #[nA #[AG (.text b)],sv] w (CJ G sv n 1 (l++MW (.text b)) w):=by
 obtain⟨K,L,rfl⟩:=r.lst.slots;have M:∀(w:Wl),(Instr.typeAssert (nF 179 (nG b)) 181 272 true).run prog w= .ok (nT #[.bool false,.bool false]) w:=fun _=>Yb
 have N:∀(w:Wl),(Instr.typeAssert (nF 179 (nG b)) 181 273 true).run prog w= .ok (nT #[.float .f64 0,.bool false]) w:=fun _=>Yb
 have O:∀(w:Wl),(Instr.typeAssert (nF 179 (nG b)) 181 179 true).run prog w= .ok (nT #[nG b,.bool true]) w:=fun _=>Yb
 have a:=hZ r;have t:=UD ((n+1)*72<=140737488355328/\n<=140737488355328) ⟨Zj,Zj⟩;clear r I;unfold AG;go_enter func322,ntmps322
 go_upto_region 12 with(first
  |(refine Am rfl _ _ _ rfl _ rfl 319 #[nG b] (MV b _) _ (Nm b _) ?_;rintro e d ⟨rfl,f⟩;refine⟨_,rfl, ?_⟩;have E:d.cell? ⟨w.heap.size,0,nN⟩=nM (nF 179 (nG b)):=f.keeps (Bx rfl _ _);have J:w.heap.size<d.heap.size:=by have:=f.size;simp at this;omega)
  |(go_at_call 323;refine(Pj _ _).mono ?_;rintro e S ⟨rfl,rfl⟩))
 obtain⟨X,q⟩:=Ue d.heap.size
 obtain⟨m,k⟩:=Ue (d.alloc (nC (AI (Aa (.text b)).toI (nS nN 0 0)).toArray 72))
 have D:Hid (Ac m X (AI (Aa (.text b)).toI (nS nN 0 0)) 72):=by rw[k,q];exact hZ (Ac.new _ _ _)
 have p:Hid (Chg w m []):=by rw[k];exact hZ (((Chg.refl w []).alloc _).trans f|>.alloc _)
 change Code.wp _ _ _ _ (d.alloc (nC (AI (Aa (.text b)).toI (nS nN 0 0)).toArray 72));rw[<-k,<-q];obtain⟨xl,xf,T,U,V,W,Y,Z⟩:=D.o.cells6;clear k q f E J
 go_wp2_with(first
  |(at_builtin;go_loud(refine Bg rfl _ _ _ rfl 72 Iq 6 72 ZM underlying22 DM rfl (nS K n L) n xs ZN (by exact a.o.lst.kept (bs:=[]) (by exact cg p.o) Zh) m.heap.size (AI (Aa (.text b)).toI (nS nN 0 0)) ZN rfl (by intro j v s;exact((Ac.new m (AI (Aa (.text b)).toI (nS nN 0 0)) 72).cell j).trans s) (C0 _ _ _ _) t.o.1 t.o.2 ?_);intro g P R z x A;have C:=hZ z;have B:=hZ x;have u:=hZ A;clear z x A))
 go_ret
 have Q:=p.o.size;refine CJ.put (sk:= nS nN 0 0) (G2:=G) a.o (p.o.alloc _) C.o B.o ?_ ⟨nN,0,rfl,Q8 _,rfl,fun i v s=>by simp[Ad,Aa,Aw.toI]at s⟩ (fun b o n c e=>by cases e) (fun _ h=>h) (fun _ h _=>h) (fun b F=> ?_) ?_ (fun g H=>(a.o.own g H).2)
 .rcases u.o with h|h
  .exact .inl h
  .right;rw[World.size_alloc]at h;omega
 .have:=a.o.ltG b F;simp;omega
 .intro y
  rcases u.o with h|h
  .exact(a.o.own _ h).2 y
  .have:=a.o.ltG _ y;rw[World.size_alloc]at h;omega
theorem Rn{a b:Nat}(c:Hs a)(d:Hs b):(FloatKind.f64.format.order a b==nM .eq)=decide (a=b):=by
 have f:∀{n:Nat},Hs n->Fl.A7 n=0->n=0:=fun{n} h g=>by
  have:=h.2.2;unfold Cg at this;rw[Qr g]at this;exact this.symm
 have e:∀{n:Nat},Hs n->Fl.A7 n<9218868437227405312:=fun{n} h=>by have:=h.2.1;unfold Fl.Fh at this;simpa using this
 exact Fl.Tq c.1 d.1 (e c) (e d) (f c) (f d)
def AX:Tr->Bool
 | .list _=>false
 | .obj _ _=>false
 |_=>true
theorem Nv(w:Wl):(binOp .eql 181 (AG .null) (AG .null)).run prog w= .ok (.bool true) w:=Yb
theorem Nu(b:Bool)(w:Wl):(binOp .eql 181 (AG .null) (AG (.flag b))).run prog w= .ok (.bool false) w:=Yb
theorem O5(b:Nat)(w:Wl):(binOp .eql 181 (AG .null) (AG (.num b))).run prog w= .ok (.bool false) w:=Yb
theorem Nw(b:BY)(w:Wl):(binOp .eql 181 (AG .null) (AG (.text b))).run prog w= .ok (.bool false) w:=Yb
theorem Nr(a:Bool)(w:Wl):(binOp .eql 181 (AG (.flag a)) (AG .null)).run prog w= .ok (.bool false) w:=Yb
theorem Nq(a:Bool)(b:Bool)(w:Wl):(binOp .eql 181 (AG (.flag a)) (AG (.flag b))).run prog w= .ok (.bool (a==b)) w:=Yb
theorem O3(a:Bool)(b:Nat)(w:Wl):(binOp .eql 181 (AG (.flag a)) (AG (.num b))).run prog w= .ok (.bool false) w:=Yb
theorem Ns(a:Bool)(b:BY)(w:Wl):(binOp .eql 181 (AG (.flag a)) (AG (.text b))).run prog w= .ok (.bool false) w:=Yb
theorem O7(a:Nat)(w:Wl):(binOp .eql 181 (AG (.num a)) (AG .null)).run prog w= .ok (.bool false) w:=Yb
theorem O6(a:Nat)(b:Bool)(w:Wl):(binOp .eql 181 (AG (.num a)) (AG (.flag b))).run prog w= .ok (.bool false) w:=Yb
theorem QI(a:Nat)(b:Nat)(w:Wl):(binOp .eql 181 (AG (.num a)) (AG (.num b))).run prog w= .ok (.bool (FloatKind.f64.format.order a b==nM .eq)) w:=Yb
theorem O8(a:Nat)(b:BY)(w:Wl):(binOp .eql 181 (AG (.num a)) (AG (.text b))).run prog w= .ok (.bool false) w:=Yb
theorem Ny(a:BY)(w:Wl):(binOp .eql 181 (AG (.text a)) (AG .null)).run prog w= .ok (.bool false) w:=Yb
theorem Nx(a:BY)(b:Bool)(w:Wl):(binOp .eql 181 (AG (.text a)) (AG (.flag b))).run prog w= .ok (.bool false) w:=Yb
theorem O9(a:BY)(b:Nat)(w:Wl):(binOp .eql 181 (AG (.text a)) (AG (.num b))).run prog w= .ok (.bool false) w:=Yb
theorem Nz(a:BY)(b:BY)(w:Wl):(binOp .eql 181 (AG (.text a)) (AG (.text b))).run prog w= .ok (.bool (a==b)) w:=Yb
theorem P0(a b:BY):(a==b)=decide (a=b):=by
 have e:(a==b)=(a.data==b.data):=by cases a;cases b;rfl
 rw[e,Bool.eq_iff_iff,beq_iff_eq,decide_eq_true_eq];exact⟨fun h=>ByteArray.ext h,fun h=>by rw[h]⟩
theorem XJ(a b:Tr)(d:AX a=true)(c:AX b=true)(e:Av a)(f:Av b)(w:Wl):(binOp .eql 181 (AG a) (AG b)).run prog w= .ok (.bool (BQ a b)) w:=by
 cases a with
 |list _=>simp[AX]at d
 |obj _ _=>simp[AX]at d
 |null=>cases b with
  |list _=>simp[AX]at c
  |obj _ _=>simp[AX]at c
  |null=>exact Nv w
  |flag b=>exact Nu b w
  |num b=>exact O5 b w
  |text b=>exact Nw b w
 |flag a=>cases b with
  |list _=>simp[AX]at c
  |obj _ _=>simp[AX]at c
  |null=>exact Nr a w
  |flag b=>exact Nq a b w
  |num b=>exact O3 a b w
  |text b=>exact Ns a b w
 |num a=>cases b with
  |list _=>simp[AX]at c
  |obj _ _=>simp[AX]at c
  |null=>exact O7 a w
  |flag b=>exact O6 a b w
  |num b=>rw[QI a b w,Rn (by simpa only[Av]using e) (by simpa only[Av]using f)];simp only[BQ]
  |text b=>exact O8 a b w
 |text a=>cases b with
  |list _=>simp[AX]at c
  |obj _ _=>simp[AX]at c
  |null=>exact Ny a w
  |flag b=>exact Nx a b w
  |num b=>exact O9 a b w
  |text b=>rw[Nz a b w,P0];simp only[BQ]
theorem Hc(ks:List BY)(k:Nat):Ay (ks.take k)<=Ay ks:=by
 have:=congrArg Ay (List.take_append_drop k ks);rw[Hx]at this;omega
theorem NJ(ks:List BY)(l:List Tr)(vs:List Vl)(z:List Nat)(b:Nat)(a:Option Addr)(c:Nat)(sk:Vl)(w:Wl)(d:Ac w b [nS a vs.length c,sk] 177)(A:AK w (nS a vs.length c) 95 vs)(h:AK w sk 9 (Ad ks))(C:PsAt w l vs z)(p:∀u∈l,(Ag u).within=true)(T:l.length<=65536)(hk:ks.length=l.length)(E:Ay ks<=2097152)(y:∀u v P w',u∈l->AP w' u v P->JB v (Ag u) w'):
  Cl prog 316 #[nP (nM ⟨b,0,nN⟩)] w fun e w'=>e= nR (Jv ((Bk l).over (Ay ks)))/\Chg w w' []:=by
 have f:=KW p l.length;rw[Qn (Q8 _)]at f;have R:w.cell? ⟨b,0,nN⟩=nM (nS a vs.length c):=d.cell 0;have F:w.cell? ⟨b,1,nN⟩=nM sk:=d.cell 1;have W:=d.lt;have x:=hZ (Ld l vs z b a c w R A C p T y);obtain⟨V,kc,rfl,I⟩:=h.form;rw[Ao]at F h;have N:=hZ h;obtain⟨S,D⟩:=Ue (Bk l)
 rw[<-D]at f x|-;obtain⟨X,K,Y⟩:=S;simp only at f;have n1:X<=4294967296:=Zj
 have n2:K<=137438953472:=Zj
 have n3:Y<=512:=f.2.2;have J:Ad ks≠[]->∃g,V=nM ⟨g,0,nN⟩:=I
 have O:=hZ J;have t:=hZ E;clear f D A C h p y I J E d;go_enter func316,ntmps316
 go_wp2_with(first|(go_at_call 303;refine x.o.mono ?_;rintro e w1 ⟨rfl,i⟩;unfold Jv Sz.over;have aa:=i.keeps F;have ae:=Q6 W i.size;have M:=hZ i;clear i))
 go_loopw [3,20] (fun Z r wr=>∃k:Nat,k<=ks.length/\Z= nI nX (K+Ay (ks.take k))/\r= nI nX k/\Chg w wr [])
  (fun _ r _=>ks.length-(intOf r).toNat)
 case atStart=>exact⟨0,Zj,by simp[Ay],rfl,M.o⟩
 case round=>
  obtain⟨k,ad,rfl,rfl,H⟩:=hrel;have o:=Hc ks k;obtain⟨B,d⟩:=Ue (Ay (ks.take k))
  rw[<-d]at o|-;have n4:B<=2097152:=Q7 o t.o;have j:=hZ d;have m:=hZ H;clear o d H;by_cases U:k<ks.length
  .obtain⟨s,q⟩:∃s,ks[k]? =nM s:=⟨_,Q9 U⟩
   obtain⟨g,rfl⟩:=O.o (by intro e;have Q:(Ad ks).length=0:=(by rw[e];rfl);rw[Ao]at Q;omega);have ab:wr.cell? ⟨g,k,nN⟩=nM (nG s):=m.o.keeps (N.o.cell rfl k _ (by simp[Ad,q]));have n:=FH q;have G:=Hc ks (k+1);have n5:B+s.size<=2097152:=by rw[j.o,<-n];exact Q7 G t.o
   have L:=hZ n;clear q n G;go_wp2
   go_roundw
   case rel=>exact⟨k+1,Zj,by rw[L.o,<-j.o];simp;omega,by go_num,m.o⟩
   case measure=>simp[intOf];omega
  .obtain rfl:k=ks.length:=by omega
   go_wp2
   refine bodyPost_ret (results_tmp3 rfl _ _ _) rfl ?_;have e:=j.o;rw[Qn (Q8 _)]at e;subst e;refine⟨?_,m.o⟩;unfold Jv Sz.over;simp;omega
theorem MD:∀(k:Nat) (t:Tr) (v:Vl) (bs:List Nat) (w:Wl),(Ag t).nodes<=k->Av t->(Ag t).within=true->AP w t v bs->JB v (Ag t) w:=by
 intro k
 induction k with
 |zero=>intro t _ _ _ h;have:=Cv t;omega
 |succ k L=>
  intro t v bs w N E z d
  have j:∀u v p w',u∈Ab t->AP w' u v p->JB v (Ag u) w':=by
   intro u v p w' g F;obtain⟨i,hi⟩:=List.mem_iff_getElem?.1 g;have:=CO hi;exact L u v p w' Zj (E.items u g) (C8 z g) F
  have m:∀u∈Ab t,(Ag u).within=true:=fun u g=>C8 z g
  have K:=Ar z;have A:=Bj t
  have o:∀(e:Vl) (s:BY) (b:Bool),v= nF 183 (nA #[e])->(∃M x,e= nF M x)->Ag t=⟨1,s.size,1⟩->
    (∀w,(Instr.typeAssert e 181 179 true).run prog w= .ok (nT #[nG s,.bool b]) w)->JB v (Ag t) w:=by
   intro e s b J G H I;subst J;rw[H];exact⟨_,_,VB e w,RD e s b G I w⟩
  cases t with
  |null=>
   simp only[AP]at d;exact o (AG .null) ⟨#[]⟩ false d.1 ⟨_,_,rfl⟩ rfl (fun _=>by unfold AG;kernel_rfl)
  |flag x=>
   simp only[AP]at d;exact o (AG (.flag x)) ⟨#[]⟩ false d.1 ⟨_,_,rfl⟩ rfl (fun _=>by unfold AG;kernel_rfl)
  |num n=>
   simp only[AP]at d;exact o (AG (.num n)) ⟨#[]⟩ false d.1 ⟨_,_,rfl⟩ rfl (fun _=>by unfold AG;kernel_rfl)
  |text s=>
   simp only[AP]at d;exact o (AG (.text s)) s true d.1 ⟨_,_,rfl⟩ rfl (fun _=>by unfold AG;kernel_rfl)
  |list l=>
   simp only[AP]at d;obtain⟨b,sv,vs,q,rfl,r,f,y,_⟩:=d;obtain⟨a,c,rfl,_⟩:=f.form;simp only[Ab]at A j m;exact⟨_,_,VC b w,Ld l vs q b a c w (r.cell 0) f y m Zj j⟩
  |obj ks l=>
   simp only[AP]at d;obtain⟨b,sv,sk,vs,q,rfl,r,f,B,C,y,_⟩:=d;obtain⟨a,c,rfl,_⟩:=f.form;simp only[Ab]at A j m;have D:Ay ks<=2097152:=by have:=K.2.1;simp only[Ag,Sz.over]at this;omega
   exact⟨_,_,Se b w,NJ ks l vs q b a c sk w r f B y m Zj C D j⟩
theorem Ft{P:Program}{c:Array Oper}{rest:List Oper}{o:Oper}{a:Act}{Q:Exit->Act->Wl->Prop}{w:Wl}(k:o.guard=nN)(r x:Operand)(b:String)(s:Array Ti)(m:o.op= .call {callee:= .invoke r b,args:=#[x],argTypes:=s})(v u:Vl)(p:a.eval r=v)(q:a.eval x=u)(f:FuncId)(args:Array Vl)(l:(callMethod v b #[u]).run P w= .ok (.enter f args) w)(R:Ending->Wl->Prop)(i:Cl P f args w R)(g:∀e w2,R e w2->∃u,e= nR u/\wpList P c Q rest (a.put o.dst u) w2):wpList P c Q (o::rest) a w:=by
 refine wpList_plain k fun K d=> ?_
 unfold Oper.wp
 have j:(execOp a.eval o).run P w= .ok (.enter f args) w:=by
  simp[execOp,m,resolve,invoke,p,q,l]
 rw[j];refine i.mono fun e w2 h=> ?_
 obtain⟨u,rfl,n⟩:=g e w2 h;exact d _ _ n
theorem GZ(v sv:Vl)(w:Wl):(callMethod (nF 183 (nA #[v])) EB #[sv]).run prog w= .ok (.enter 322 #[nA #[v],sv]) w:=Yb
theorem TW(b:Nat)(sv:Vl)(w:Wl):(callMethod (nF 104 (nP (nM ⟨b,0,nN⟩))) EB #[sv]).run prog w= .ok (.enter 304 #[nP (nM ⟨b,0,nN⟩),sv]) w:=Yb
theorem PH(b:Nat)(sv:Vl)(w:Wl):(callMethod (nF 175 (nP (nM ⟨b,0,nN⟩))) EB #[sv]).run prog w= .ok (.enter 317 #[nP (nM ⟨b,0,nN⟩),sv]) w:=Yb
def LQ(v:Vl)(t:Tr)(bs:List Nat)(w:Wl):Prop:=∀(G:Nat->Prop) (sv:Vl) (n:Nat) (l:List Ap) (xs:List Vl),Nj bs G sv n l xs w->n+(Ag t).nodes<=4294967296->
 ∃f args,(callMethod v EB #[sv]).run prog w= .ok (.enter f args) w/\Cl prog f args w (CJ G sv n (Ag t).nodes (l++MW t) w)
theorem VK{l:List Tr}{k:Nat}{u:Tr}(h:l[k]? =nM u):KH (l.take (k+1))=KH (l.take k)++MW u:=by
 unfold KH MW;rw[EA h,List.map_append]
theorem NO{l:List Tr}{k:Nat}{u:Tr}(h:l[k]? =nM u):(Bk (l.take k)).nodes+(Ag u).nodes<=(Bk l).nodes:=by
 have a:=M4 l (k+1);rw[BM h]at a;exact a
theorem I4(l:List Tr)(vs:List Vl)(M bs:List Nat)(b:Nat)(a:Option Addr)(c:Nat)(w:Wl)(hb:w.cell? ⟨b,0,nN⟩=nM (nS a vs.length c))(R:AK w (nS a vs.length c) 95 vs)(A:PsAt w l vs M)(S:∀x,x∈b::((Vl.slice a vs.length c).ownBlock.toList++M)->x∈bs)(s:∀x,x∈bs->x<w.heap.size)(hl:l.length<=65536)(G:Nat->Prop)(sv:Vl)(n:Nat)(L:List Ap)(xs:List Vl)(V:Nj bs G sv n L xs w)(hn:n+(Bk l).nodes<=4294967296)(K:∀u v h w',u∈l->AP w' u v h->(∀x,x∈h->x<w'.heap.size)->LQ v u h w'):
  Cl prog 306 #[nP (nM ⟨b,0,nN⟩),sv] w (CJ G sv n (Bk l).nodes (L++KH l) w):=by
 have ak:=A.length;have lb:=World.block_lt_of_cell? w _ hb;have J:=hZ R;have HP:=hZ A;have HI:=hZ K;have q:=hZ V;have I:=hZ S;have y:=hZ s;clear R A K V S s;go_enter func306,ntmps306
 go_wp2
 go_loopw [1,12] (fun d F wr=>∃(k:Nat) (o:Vl),k<=vs.length/\o=d/\F= nI nX k/\CJ G sv n (Bk (l.take k)).nodes (L++KH (l.take k)) w (nR o) wr)
  (fun _ F _=>vs.length-(intOf F).toNat)
 case atStart=>exact⟨0,sv,Zj,rfl,rfl,by have:=CJ.same q.o cR;simpa[Bk,KH,BI]using this⟩
 case round=>
  obtain⟨k,o,hk,rfl,rfl,B⟩:=hrel;obtain⟨v0,G',al,z,W,N,O,P,Q⟩:=CJ.inn q.o y.o B
  injection z with z
  subst z;have HS:=hZ B;have aa:=hZ W;have p:=hZ N;have H4:=hZ O;have H5:=hZ P;have H6:=hZ Q;clear B W N O P Q;by_cases s:k<vs.length
  .have D:k<l.length:=by omega
   obtain⟨u,i⟩:∃u,l[k]? =nM u:=⟨_,Q9 D⟩
   obtain⟨v,h,Z,X,T⟩:=HP.o.get i
   obtain⟨g,rfl⟩:∃g,a=nM ⟨g,0,nN⟩:=by
    obtain⟨a',c',e,h⟩:=J.o.form
    injection e with e1
    subst e1;exact h (by intro e;subst e;simp at s)
   have C:g∈bs:=I.o g (by simp[Vl.ownBlock]);have ai:wr.cell? ⟨g,k,nN⟩=nM v:=(p.o.cell (y.o g C) (fun t=>(q.o.own g (by simpa using t)).1 C)).trans (J.o.cell rfl k v Z);have r:∀x,x∈h->x∈bs:=fun x m=>I.o x (by simp[T x m])
   have E:=X.chg p.o (fun x m ah=>(q.o.own x (by simpa using m)).1 (r x ah));have Y:=Qi i;obtain⟨ti,x,rfl⟩:=E.iface;have ag:=NO i;obtain⟨f,args,t,U⟩:=HI.o u _ h wr Y E (fun x m=>Q6 (y.o x (r x m)) p.o.size) G' o _ _ _ (aa.o.sub r) Zj
   have af:Cl prog f args wr fun e H=>∃d,e= nR d/\CJ G sv n (Bk (l.take (k+1))).nodes (L++KH (l.take (k+1))) w (nR d) H:=by
    refine U.mono fun e H j=> ?_
    have ae:=CJ.step H5.o H6.o p.o H4.o j;rw[BM i,VK i,<-List.append_assoc];obtain⟨d,G1,am,he,aj⟩:=j;subst he;exact⟨d,rfl,ae⟩
   have ab:=hZ t;clear t Z X E i Y ag r T C U
   go_wp2_with(first
    |(refine Ft rfl _ _ _ _ rfl (nF ti x) o ZN ZN f args ab.o _ af ?_;rintro e H ⟨d,rfl,j⟩;refine⟨_,rfl, ?_⟩;have ad:=hZ j;clear j))
   go_roundw
   case rel=>exact⟨k+1,_,Zj,rfl,by go_num,ad.o⟩
   case measure=>simp[intOf];omega
  .go_wp2
   go_ret
   have D:l.take k=l:=Qn Zj;have:=HS.o;rwa[D]at this
structure I9(bs:List Nat)(G:Nat->Prop)(sv:Vl)(n:Nat)(L:List Ap)(w:Wl)(v1:Vl)(w1:Wl):Prop where
 ex:∃G1 xs1,Nj bs G1 v1 n L xs1 w1/\(∀b,G b->G1 b)/\(∀b,G1 b->b<w.heap.size->G b)
 chg:Chg w w1 sv.ownBlock.toList
 own:∀g,v1.ownBlock=nM g->sv.ownBlock=nM g\/w.heap.size<=g
theorem I9.of{bs:List Nat}{G:Nat->Prop}{sv:Vl}{n m:Nat}{l f:List Ap}{xs:List Vl}{w i w':Wl}{e:Ending}(t:Nj bs G sv n l xs w)(s:∀b,b∈bs->b<w.heap.size)(a:Chg w i [])(h:CJ G sv n m f i e w'):
  ∃c,e= nR c/\I9 bs G sv (n+m) f w c w':=by
 obtain⟨c,j,x,rfl,k,o,p,q,r⟩:=CJ.inn (t.kept a) (fun b v=>Q6 (s b v) a.size) h;refine⟨c,rfl,⟨⟨j,x,k,q,fun b d u=>r b d (Q6 u a.size)⟩,(a.none _).trans o,fun g d=> ?_⟩⟩
 rcases p g d with h|h
 .exact .inl h
 .exact .inr (Q7 a.size h)
theorem I9.kept{bs:List Nat}{G:Nat->Prop}{sv:Vl}{n:Nat}{L:List Ap}{w c w2:Wl}{b:Vl}(h:I9 bs G sv n L w b c)(a:Chg c w2 []):I9 bs G sv n L w b w2:=by
 obtain⟨⟨d,k,e,f,g⟩,i,j⟩:=h;exact⟨⟨d,k,e.kept a,f,g⟩,i.trans (a.none _),j⟩
theorem I9.slots{bs:List Nat}{G:Nat->Prop}{sv:Vl}{n:Nat}{L:List Ap}{w e:Wl}{b:Vl}(h:I9 bs G sv n L w b e):∃a c,b= nS a n c:=by
 obtain⟨⟨f,g,d,_⟩,_⟩:=h;exact d.lst.slots
theorem XQ(l:List Tr):MW (.list l)=KH l++[(Aa (.list l)).toI]:=by unfold MW KH;simp[Ai]
theorem YT(ks:List BY)(l:List Tr):MW (.obj ks l)=KH l++[(Aa (.obj ks l)).toI]:=by unfold MW KH;simp[Ai]
theorem Ff(w:Wl)(cs:List Vl)(T:Ti):∀j v,cs[j]? =nM v->(w.alloc (nC cs.toArray T)).cell? ⟨w.heap.size,j,nN⟩=nM v:=fun j v a=>((Ac.new w cs T).cell j).trans a
theorem I9.put{bs:List Nat}{G:Nat->Prop}{sv:Vl}{n m:Nat}{L:List Ap}{w c k:Wl}{e:Option Addr}{c1:Nat}{s:Ap}{sk:Vl}{g q:Nat}(h:I9 bs G sv (n+m) L w (nS e (n+m) c1) c)(a:∀b,b∈bs->b<w.heap.size){y:List Vl}{d G2:Nat->Prop}(A:Nj bs d (nS e (n+m) c1) (n+m) L y c)(B:∀b,G b->d b)(C:∀b,d b->b<w.heap.size->G b)(F:Ba k (nS (nM ⟨g,0,nN⟩) (n+m+1) q) 72 6 (n+m+1) (y++AI s sk))(l:Chg c k (Vl.slice e (n+m) c1).ownBlock.toList)(u:(Vl.slice e (n+m) c1).ownBlock=nM g\/c.heap.size<=g)(J:As c sk 1 s.keys.length (Ad s.keys))(v:SE G2 sk)(r:∀b,d b->G2 b)(E:∀b,G2 b->b<w.heap.size->d b)(p:∀b,G2 b->b<c.heap.size)(x:∀g,(Vl.slice e (n+m) c1).ownBlock=nM g->¬G2 g):
  CJ G sv n (m+1) (L++[s]) w (nR (nS (nM ⟨g,0,nN⟩) (n+m+1) q)) k:=by
 have K:=h.chg.size;have t:BZ G2 c k:=l.keepsF p (fun b a H=>x b (by simpa using a) H);refine⟨_,G2,_,rfl,by rw[<-Nat.add_assoc];exact F,((A.at_.kept (fun _ _ _=>rfl) r).kept t (fun _ h=>h)).append (KS s sk (J.keptF v t) v),h.chg.step l fun j I o=> ?_, ?_,fun b a=>r b (B b a),fun b a o=>C b (E b a o) o,fun b a=>Q6 (p b a) l.size, ?_⟩
 .rcases h.own j (by simpa using I)with h|h
  .simpa using h
  .omega
 .intro z i
  simp[Vl.ownBlock]at i;subst i
  rcases u with f|f
  .exact h.own _ f
  .exact .inr Zj
 .intro z i
  simp[Vl.ownBlock]at i;subst i
  rcases u with f|f
  .exact x _ f
  .intro D;have:=p _ D;omega
theorem Pm(l:List Tr)(vs:List Vl)(y:List Nat)(b:Nat)(a:Option Addr)(c:Nat)(w:Wl)(T:Ac w b [nS a vs.length c] 107)(hL:AK w (nS a vs.length c) 95 vs)(V:PsAt w l vs y)(hl:l.length<=65536)(G:Nat->Prop)(sv:Vl)(n:Nat)(L:List Ap)(xs:List Vl)(s:Nj (b::((Vl.slice a vs.length c).ownBlock.toList++y)) G sv n L xs w)(hn:n+(Ag (.list l)).nodes<=4294967296)(C:∀x,x∈b::((Vl.slice a vs.length c).ownBlock.toList++y)->x<w.heap.size)(IH:∀u v S w',u∈l->AP w' u v S->(∀x,x∈S->x<w'.heap.size)->LQ v u S w'):
  Cl prog 304 #[nP (nM ⟨b,0,nN⟩),sv] w (CJ G sv n (Ag (.list l)).nodes (L++MW (.list l)) w):=by
 have ak:=V.length;have aj:(Ag (.list l)).nodes=(Bk l).nodes+1:=by simp only[Ag,Sz.over];omega
 rw[aj]at hn|-;obtain⟨P,M⟩:=Ue (b::((Vl.slice a vs.length c).ownBlock.toList++y))
 rw[<-M]at s C;have O:w.cell? ⟨b,0,nN⟩=nM (nS a vs.length c):=T.cell 0;have lb:=T.lt;have W:b∈P:=by rw[M];simp
 have ah:b∉sv.ownBlock.toList:=fun d=>(s.own b (by simpa using d)).1 W
 have al:w.heap.size∉sv.ownBlock.toList:=fun d=>by have:=s.lst.lt (by simpa using d);omega
 have R:=UD (∀I,Chg w I []->Cl prog 306 #[nP (nM ⟨b,0,nN⟩),sv] I fun e f=>∃F,e= nR F/\I9 P G sv (n+(Bk l).nodes) (L++KH l) w F f/\Chg I f sv.ownBlock.toList) fun I t=>
  (I4 l vs y P b a c I (t.keeps O) (hL.kept t) (V.chg t Zh) (fun x Y=>by rw[M];exact Y) (fun x Y=>Q6 (C x Y) t.size) hl G sv n L xs (s.kept t) Zj IH).mono fun e f h=>by
   obtain⟨F,he,d⟩:=I9.of s C t h;obtain⟨_,_,_,_,_,_,hc,_⟩:=h;exact⟨F,he,d,hc⟩
 have am:=hZ ah;have ar:=hZ al;have aa:=hZ W;have ao:=hZ C;have m:=UD ((n+(Bk l).nodes+1)*72<=140737488355328/\n+(Bk l).nodes<=140737488355328) ⟨Zj,Zj⟩;have aq:=hZ ak;clear T hL V s C IH aj W ah al M hn ak;obtain⟨M,hM⟩:=Ue ((Bk l).nodes)
 rw[<-hM]at R m|-;obtain⟨N,U⟩:=Ue (n+M)
 rw[<-U]at R m;have ap:=hZ U;clear U hM;go_enter func304,ntmps304
 go_wp2_with fail
 go_region_held3(fun w'=>w'.cell? ⟨b,0,nN⟩=nM (nS a vs.length c)) (first|exact O|exact r|exact ag|exact(fun h:Chg f _ []=>h.keeps r) (by exact cg cR)|exact(fun h:Chg w _ []=>h.keeps O) (by exact cg cR))
  (first
   |(go_at_call 306;refine(R.o _ (by exact cg cR)).mono ?_;rintro e f ⟨F,rfl,d,ai⟩;obtain⟨q,c1,rfl⟩:=d.slots;have r:=(d.chg.cell lb am.o).trans O;have Q:=hZ d;have an:=hZ ai;clear d ai)
   |(obtain⟨G1,Z,k,D,E⟩:=Q.o.ex;(refine Bw rfl _ _ _ rfl 72 Iq 6 72 ZM underlying22 DM rfl (nS q N c1) N Z ZN (by exact k.lst.kept (bs:=[]) (by exact cg cR) Zh) f.heap.size (AI ⟨5,false,0,Dz,vs.length,[]⟩ (nS nN 0 0)) ZN ZN (by exact Ff _ _ _) (C0 _ _ _ _) m.o.1 m.o.2 ?_);intro g au H B z A;have ad:=hZ B;have J:=UD (Chg f H (Vl.slice q N c1).ownBlock.toList) ((((Chg.refl f []).alloc _).none _).trans z);have ab:=UD ((Vl.slice q N c1).ownBlock=nM g\/f.heap.size<=g) (A.imp id (fun h=>by rw[World.size_alloc]at h;omega));have K:=hZ k;have ae:=hZ D;have af:=hZ E;have ag:H.cell? ⟨b,0,nN⟩=nM (nS a vs.length c):=(J.o.cell (World.block_lt_of_cell? f _ r) (fun d=>(k.own b (by simpa using d)).1 aa.o)).trans r;clear B z A k D E)
   |(obtain⟨G1,Z,k,D,E⟩:=Q.o.ex;(refine Bw rfl _ _ _ rfl 72 Iq 6 72 ZM underlying22 DM rfl (nS q N c1) N Z ZN (by exact k.lst.kept (bs:=[]) (by exact cg cR) Zh) w.heap.size (AI ⟨5,false,0,Dz,vs.length,[]⟩ (nS nN 0 0)) ZN ZN (by intro j v X;exact(an.o.cell (p:=⟨w.heap.size,j,nN⟩) Zh ar.o).trans (Ff _ _ _ j v X)) (C0 _ _ _ _) m.o.1 m.o.2 ?_);intro g au H B z A;have ad:=hZ B;have J:=UD (Chg f H (Vl.slice q N c1).ownBlock.toList) z;have ab:=UD ((Vl.slice q N c1).ownBlock=nM g\/f.heap.size<=g) (A.imp id (fun h=>Nat.le_of_eq h.symm));have K:=hZ k;have ae:=hZ D;have af:=hZ E;have ag:H.cell? ⟨b,0,nN⟩=nM (nS a vs.length c):=(J.o.cell (World.block_lt_of_cell? f _ r) (fun d=>(k.own b (by simpa using d)).1 aa.o)).trans r;clear B z A k D E))
 all_goals
  go_wp2_with fail
  go_ret
  have e:=ap.o;subst e;rw[XQ,<-List.append_assoc];have hs:(Aa (.list l)).toI=⟨5,false,0,Dz,vs.length,[]⟩:=by rw[aq.o];rfl
  rw[hs];exact I9.put Q.o ao.o K.o ae.o af.o ad.o J.o ab.o ⟨nN,0,rfl,Q8 _,rfl,fun i v X=>by simp[Ad]at X⟩ (fun b o n c e=>by cases e) (fun _ h=>h) (fun _ h _=>h) K.o.ltG (fun g hg=>(K.o.own g hg).2)
def KP(ks:List BY)(w:Wl)(e:Ending)(w':Wl):Prop:=∃sk,e= nR sk/\AK w' sk 9 (Ad ks)/\BP w sk.ownBlock.toList/\Chg w w' []
theorem M0{ks:List BY}{i:Nat}{s:BY}(h:ks[i]? =nM s):Ad (ks.take i)++[nG s]=Ad (ks.take (i+1)):=by
 rw[List.take_add_one,h];simp[Ad]
theorem Rq(F:Nat->Prop)(ks:List BY)(l:List Tr)(vs:List Vl)(N:Option Addr)(c:Nat)(w:Wl)(J:ks.length=l.length)(H:Dc w F l vs)(K:LP w F N (Kp ks vs))(hn:l.length<=65536):
  Cl prog 127 #[nS N l.length c] w (KP ks w):=by
 have S:=hZ K;have p:=hZ J;have U:=hZ H;clear K J H;go_enter func127,ntmps127
 go_wp2
 go_loopw [3,8] (fun Z z wr=>∃(i:Nat) (n:Vl),i<=l.length/\z= nI nX i/\n=Z/\AK wr n 9 (Ad (ks.take i))/\BP w n.ownBlock.toList/\Chg w wr []) (fun _ z _=>l.length-(intOf z).toNat)
 case atStart=>exact⟨0,_,Zj,rfl,rfl,AK.nil _ _,BP.nil _,by exact cg cR⟩
 case round=>
  obtain⟨i,n,hi,rfl,rfl,a,m,d⟩:=hrel;by_cases X:i<l.length
  .obtain⟨s,y⟩:∃s,ks[i]? =nM s:=⟨_,Q9 (by have:=p.o;omega)⟩
   obtain⟨v,L,M⟩:=U.o.get i _ (Q9 X);obtain⟨Y,x,rfl⟩:=M.iface;obtain⟨k,C⟩:=Mi y L
   rcases S.o with V|⟨b,o,rfl,ab,t⟩
   .rw[V]at k;simp at k
   have r:o+i*2=o+2*i:=Zj
   have c0:wr.cell? ⟨b,o+i*2,nN⟩=nM (nG s):=by rw[r];exact d.keeps (t _ _ k)
   have c1:wr.cell? ⟨b,o+i*2+1,nN⟩=nM (nF Y x):=by rw[r];exact d.keeps (t _ _ C)
   obtain⟨e,f,rfl,_⟩:=a.form;have u:(Ad (ks.take i)).length=i:=by rw[Ao,Ql];have:=p.o;omega
   rw[u]at a m|-;have O:=hZ a;have A:=hZ m;have B:=hZ d;have T:=hZ y;have q:=hZ u;clear a m d y L M k C t u r
   go_wp2_with(first
    |(refine AM rfl _ _ _ rfl 9 (nG ⟨#[]⟩) 16 underlying27 Cf rfl (nS e i f) (Ad (ks.take i)) ZN (by exact O.o.kept (bs:=[]) (by exact cg cR) Zh) (wr.heap.size+1) (nG s) ZN (by exact Bx Zh _ _) rfl (by rw[q.o];omega) (by rw[q.o];omega) ?_;rw[q.o];intro g aa w7 G D E;have R:=hZ G;have P:=UD (Chg wr w7 (Vl.slice e i f).ownBlock.toList) (ct ((Chg.refl wr []).none _) D);have Q:=UD ((Vl.slice e i f).ownBlock=nM g\/wr.heap.size<=g) (E.imp id (fun h=>by simp at h;omega));clear G D E))
   go_roundw
   case rel=>
    refine⟨i+1,_,Zj,by go_num,rfl,by rw[<-M0 T.o];exact R.o,⟨by simp[Vl.ownBlock],fun b I=> ?_⟩,B.o.step P.o fun j W hl=> ?_⟩
    .simp[Vl.ownBlock]at I
     subst I
     rcases Q.o with h|h
     .exact A.o.ge _ (by simp[h])
     .have:=B.o.size;omega
    .have:=A.o.ge j W;omega
   case measure=>simp[intOf];omega
  .have ad:i=l.length:=by omega
   rw[Qn (by have:=p.o;omega)]at a;obtain⟨e,f,rfl,_⟩:=a.form;go_wp2
   go_ret
   exact⟨_,rfl,a,m,d⟩
end
end Go.Proofs.YtkfnkppdhcaeoaaGreatDoor

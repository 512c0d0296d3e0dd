/- Part 20 of the proof of patchFresh_card. -/
import Derived.Test.YtamgbmcchhmojaaGreatDoorM19
set_option maxRecDepth 100000
set_option maxHeartbeats 32000000
set_option linter.all false
namespace Go.Proofs.YtamgbmcchhmojaaGreatDoor
open Go renaming Calls->Cl,TypeId->Ti,Value->Vl,World->Wl
open Go.Value renaming agg->nA,iface->nF,int->nI,pointer->nP,slice->nS,string->nG,tuple->nT
open Go.IntKind renaming i64->nX
open Go.Ending renaming returned->nR
open Go.Obj renaming cells->nC
open Option renaming none->nN,some->nM
section
open _root_.Go.Proofs.Tryz
open Go Go.RowKit Tree Ptr
theorem fR(s:BY)(ks:List BY)(b o c:Nat)(w:Wl)(D:ks.length<=4294967296)(p:∀i k,ks[i]? =nM k->w.cell? ⟨b,o+i,nN⟩=nM (nG k)):
  Cl prog 57 #[nS (nM ⟨b,o,nN⟩) ks.length c,nG s] w fun e w'=>e= nR (nI nX (eN ks s))/\Chg w w' []:=by
 have t:=hZ p;clear p;go_enter func57,ntmps57;go_wp2_with fail;go_loopw [8] (fun m wr=>∃i:Nat,i<=ks.length/\m= nI nX i/\w=wr/\∀j k,j<i->ks[j]? =nM k->k≠s) (fun m _=>ks.length-(intOf m).toNat)
 case atStart=>exact⟨0,Zj,rfl,rfl,fun j k h=>absurd h (Nat.not_lt_zero j)⟩
 case round=>
  obtain⟨i,B,rfl,rfl,r⟩:=hrel;have g:=hZ r;clear r;by_cases z:i<ks.length
  .obtain⟨k,l⟩:∃k,ks[i]? =nM k:=⟨_,Q9 z⟩;have A:=t.o i k l;have n:=hZ l;clear l;by_cases a:s=k
   .have x:(s.toList==k.toList)=true:=by rw[a];simp
    have f:=hZ a;clear a;go_wp2_with fail;go_ret;exact⟨by rw[eO (f.o▸n.o) g.o];rfl,Chg.refl _ _⟩
   .have v:¬s.toList=k.toList:=fun e=>a (by rw[Lib.toList_data,Lib.toList_data]at e;exact ByteArray.ext (Array.toList_inj.1 e));have x:(s.toList==k.toList)=false:=by simpa using v
    have f:=hZ a;clear a;go_wp2_with fail;go_roundw
    case rel=>
     refine⟨i+1,Zj,by go_num,trivial,fun j q C d=> ?_⟩;by_cases y:j=i
     .subst y;have u:=n.o;rw[u]at d;injection d with d
      rw[<-d];exact fun e=>f.o e.symm
     .exact g.o j q Zj d
    case measure=>simp[intOf];omega
  .obtain rfl:i=ks.length:=by omega
   go_wp2_with fail;go_ret;exact⟨by rw[eL g.o];rfl,Chg.refl _ _⟩
def fG:List BY:=[Ec 1,Ec 2,Ec 3,Ec 4,Ec 5,Ec 6]
theorem z0r{p:Prop}(h:p:=by rename_i h;subst h;decide+kernel):p:=h
theorem fP(s:BY):1+eN fG s=(Ob s:Int):=by
 unfold Ob;split
 .exact z0r
 .rename_i b;split
  .exact z0r
  .rename_i c;split
   .exact z0r
   .rename_i d;split
    .exact z0r
    .rename_i f;split
     .exact z0r
     .rename_i g;split
      .exact z0r
      .rename_i i;rw[eL]
       .rfl
       .intro j k _ l e;subst e;have a:=Qi l;simp only[fG,Qh,List.not_mem_nil,or_false]at a;rcases a with h|h|h|h|h|h
        .exact b h
        .exact c h
        .exact d h
        .exact f h
        .exact g h
        .exact i h
theorem gg(s:BY):Ob s<=6:=by
 unfold Ob;repeat' split
 all_goals omega
theorem fQ{w:Wl}(h:dM w):∀i k,fG[i]? =nM k->w.cell? ⟨0,0+i,nN⟩=nM (nG k):=by
 intro i k a;have hi:i<6:=(Qc.1 a).1;rw[Nat.zero_add,h i hi];have:i=0\/i=1\/i=2\/i=3\/i=4\/i=5:=Zj;rcases this with rfl|rfl|rfl|rfl|rfl|rfl<;>(simp[fG]at a;rw[<-a])
end
section
open _root_.Go.Proofs.Tryz
open Go Go.Shelf Go.RowKit Go.Lib Tree Ptr
variable{o:Bq}{k:Int}{frm path:List BY}{p:Prop}{x:Tr}{sv:Vl}{w w':Wl}
def Db(k:Int)(p f:BY)(sv:Vl):List Vl:=[nI nX k,nG p,nG f,sv,nS nN 0 0,nS nN 0 0,.nilIface]
theorem IK(k:Int)(p f:BY)(a:Option Addr)(n c:Nat):∀u∈Db k p f (nS a n c),u.oneCell'=true:=by
 intro u b;simp only[Db,Qh,List.not_mem_nil,or_false]at b;rcases b with rfl|rfl|rfl|rfl|rfl|rfl|rfl<;>rfl
theorem Ce:(prog.info? 78).map (·.size)=nM 7:=Yb
def I8(o:Bq)(path frm:List BY)(x:Tr)(sv:Vl)(w:Wl)(e:Ending)(w':Wl):Prop:=
 ∃slp d f c F a,e= nR (nA #[nI nX o.kind,nG o.path,nG o.frm,sv,slp,d,f])/\UH w' o path frm x slp d f c F a/\BP w c/\(∀b,F b->w.heap.size<=b)/\(∀b,a b->w.heap.size<=b)/\(∀b,b∈c->¬F b/\¬a b)/\Chg w w' []/\(d.oneCell'=true/\f.oneCell'=true)
theorem LL{i:Wl}{d:Vl}{ts:List BY}{s:BY}(h:AK i d 9 (Ad ts))(g:AD s=nM ts)(l:s.size<=16777216)(f:Chg i w' []):JC w' (fun b=>d.ownBlock=nM b) d ts:=
 ⟨(h.kept f).rowAt (fun _ e=>e),fun b k=>Q6 (h.lt k) f.size,PK g Zj,fun t m=>Q7 (Lf g t m) l,fun a n c e=>by
  obtain⟨o,p,j,_⟩:=h.form;rw[j]at e h;have v:=h.capLe.2;injection e with q r u
  omega⟩
structure T7(o:Bq):Prop where
 path:o.path.size<=16777216
 frm:o.frm.size<=16777216
 steps:∀s∈o.steps,Di s
 len:o.steps.length<=4294967296
def Co(o:Bq)(sv:Vl)(w:Wl)(e:Ending)(w':Wl):Prop:=
 if Bn o≠0 then AZ (Bn o) [] w e w' else∃path frm x,I8 o path frm x sv w e w'/\(AN o.kind=true->AS o.steps=nM x)
theorem Iu:CP k=true↔¬(k<1\/6<k):=by
 unfold CP;rw[decide_eq_true_iff];omega
theorem Co.no{n:Nat}(h:Bn o=n)(a:n≠0):Co o sv w=AZ n [] w:=by
 funext e w';unfold Co;rw[h,Qr a]
theorem Co.yes{e:Ending}(h:Bn o=0)(a:I8 o path frm x sv w e w')(b:AN o.kind=true->AS o.steps=nM x):Co o sv w e w':=by
 unfold Co;rw[h,Qs Zh];exact⟨path,frm,x,a,b⟩
theorem SN(a:CP o.kind=false):Bn o=170:=by
 have:¬CP o.kind=true:=by simp[a]
 rw[Iu,Classical.not_not]at this;unfold Bn;rw[Qr this]
theorem LT(a:CP o.kind=true)(b:AD o.path=nN\/(AO o.kind=true/\AD o.frm=nN)):Bn o=171:=by
 unfold Bn;rw[Qs (Iu.1 a),Qr b]
theorem GH(a:CP o.kind=true)(b:¬(AD o.path=nN\/(AO o.kind=true/\AD o.frm=nN))):Bn o=if AN o.kind=true/\(AS o.steps).isNone=true then 174 else 0:=by
 unfold Bn;rw[Qs (Iu.1 a),Qs b]
theorem Nd(h:AN k=true):AO k=false:=by
 unfold AN at h;unfold AO;simp only[Bool.or_eq_true,decide_eq_true_eq]at h;rcases h with(h|h)|h<;>subst h<;>rfl
theorem AK.cut{b:Vl}{e:Ti}{vs:List Vl}(h:AK w b e vs):∃a m c,b= nS a m c:=by
 obtain⟨a,c,e,_⟩:=h.form;exact⟨_,_,_,e⟩
theorem z0t(h:p:=by simp;omega):p:=h
theorem z0w(h:p:=by simp[Vl.oneCell']):p:=h
theorem Xu(o:Bq)(sv:Vl)(ys:List Vl)(w:Wl)(hL:Br w)(hO:T7 o)(hR:As w sv 6 o.steps.length ys)(hS:Az w o.steps ys):
  Cl prog 29 #[nA (BJ o sv).toArray] w (Co o sv w):=by
 obtain⟨a,c,rfl,_⟩:=hR.form;have X:=hZ hO;have HL:=hZ hL;have HU:=UD (∀l,Cl prog 48 #[nI nX o.kind] l fun e w'=>e= nR (nT #[.bool (AO o.kind),.bool (AN o.kind),.bool (CP o.kind)])/\Chg l w' []) fun l=>Jm o.kind l;have HP:=UD (∀l,Chg w l []->Cl prog 49 #[nG o.path] l (AU o.path l)) fun l A=>D8 o.path l (hL.kept A) hO.path;have af:=UD (∀l,Chg w l []->Cl prog 49 #[nG o.frm] l (AU o.frm l)) fun l A=>D8 o.frm l (hL.kept A) hO.frm;have HB:=UD (∀l,Chg w l []->Cl prog 16 #[nS a o.steps.length c] l (BO o.steps l)) fun l A=>Fk o.steps _ ys l (hR.kept A) (hS.kept A) hO.steps hO.len;obtain⟨k,ax⟩:=Ue o.kind;obtain⟨p,az⟩:=Ue o.path;obtain⟨f,av⟩:=Ue o.frm;obtain⟨n,ay⟩:=Ue o.steps.length;have aE:=hZ ax;have aq:=hZ az;have an:=hZ av;have aF:=hZ ay;show Cl _ _ #[nA #[nI nX o.kind,nG o.path,nG o.frm,nS a o.steps.length c]] _ _
 obtain⟨kn,aJ⟩:=Ue (CP o.kind);obtain⟨uf,aL⟩:=Ue (AO o.kind);obtain⟨uv,ai⟩:=Ue (AN o.kind);have Q:=hZ aJ.symm;have R:=hZ aL.symm;have J:=hZ ai.symm;obtain⟨bb,aK⟩:=Ue (Vl.slice a o.steps.length c);have aH:=hZ aK;have e0:Co o (Vl.slice a o.steps.length c) w=Co o bb w:=by rw[aK]
 rw[e0,<-ax,<-az,<-av,<-ay];rw[<-aJ,<-aL,<-ai,<-ax]at HU;rw[<-az]at HP;rw[<-av]at af;rw[<-ay]at HB;have BN:=UD (Ac (((w.alloc (nC #[nI nX k,nG p,nG f,nS a n c] 44)).alloc (nC (Db 0 ⟨#[]⟩ ⟨#[]⟩ (nS nN 0 0)).toArray 78)).alloc (nC (Db 0 ⟨#[]⟩ ⟨#[]⟩ (nS nN 0 0)).toArray 78)) (w.heap.size+1+1) (Db 0 ⟨#[]⟩ ⟨#[]⟩ (nS nN 0 0)) 78) (by have:=Ac.new ((w.alloc (nC #[nI nX k,nG p,nG f,nS a n c] 44)).alloc (nC (Db 0 ⟨#[]⟩ ⟨#[]⟩ (nS nN 0 0)).toArray 78)) (Db 0 ⟨#[]⟩ ⟨#[]⟩ (nS nN 0 0)) 78;simpa using this);have a3:=UD (Ac (((w.alloc (nC #[nI nX k,nG p,nG f,nS a n c] 44)).alloc (nC (Db 0 ⟨#[]⟩ ⟨#[]⟩ (nS nN 0 0)).toArray 78)).alloc (nC (Db 0 ⟨#[]⟩ ⟨#[]⟩ (nS nN 0 0)).toArray 78)) (w.heap.size+1) (Db 0 ⟨#[]⟩ ⟨#[]⟩ (nS nN 0 0)) 78) ((CH w _ _ _).alloc _);have a5:=UD (Ac (((w.alloc (nC #[nI nX k,nG p,nG f,nS a n c] 44)).alloc (nC (Db 0 ⟨#[]⟩ ⟨#[]⟩ (nS nN 0 0)).toArray 78)).alloc (nC (Db 0 ⟨#[]⟩ ⟨#[]⟩ (nS nN 0 0)).toArray 78)) w.heap.size (BJ ⟨k,p,f,[]⟩ (nS a n c)) 44) (((Ac.new w (BJ ⟨k,p,f,[]⟩ (nS a n c)) 44).alloc _).alloc _);clear ax az av ay aJ aL ai aK e0 hL hO hR hS;go_enter func29,ntmps29
 go_upto_region 3 with(first
  |(refine Ae rfl _ _ _ rfl (w.heap.size+1+1) (Db k p f (nS a n c)) ZN ZN 78 (Db 0 ⟨#[]⟩ ⟨#[]⟩ (nS nN 0 0)) (by exact BN.o) Ce rfl (IK _ _ _ _ _ _) ?_;intro w0 aY aS aw;have a6:=hZ aS;have bc:=hZ aY;have H0:=UD (Chg w w0 []) (Chg.step (b:=_) (by exact cg cR) aw (fun i hi hl=>by simp at hi;omega));have aN:=UD (Ac w0 w.heap.size (BJ ⟨k,p,f,[]⟩ (nS a n c)) 44) (Ac.kept (w:=_) (by exact a5.o) aw z0t);have aZ:=UD (Ac w0 (w.heap.size+1) (Db 0 ⟨#[]⟩ ⟨#[]⟩ (nS nN 0 0)) 78) (Ac.kept (w:=_) (by exact a3.o) aw Zh);have x0:=aN.o.cell 0;unfold BJ at x0;simp only[Qa,Qb]at x0;clear aY aS aw)
  |(go_at_call 48;refine(HU.o _).mono ?_;rintro e w1 ⟨rfl,S⟩;have W:=UD (Chg w w1 []) (H0.o.trans S);have aO:=hZ (aN.o.kept S);have aB:=hZ (a6.o.kept S);have a0:=hZ (aZ.o.kept S);have x1:=aO.o.cell 1;unfold BJ at x1;simp only[Qa,Qb]at x1;clear S))
 cases kn with
 |false=>
  go_wp2_with(go_at_call_of 30 (Vl.bool false);refine(Bu _ _).mono ?_;rintro e T ⟨D,h⟩;unfold By at D;subst D;have P:=UD (Chg w T []) (Chg.trans (b:=_) (by exact W.o) h);clear h);rw[Co.no (n:=170) (SN Q.o) ZM];exact⟨rfl,rfl,P.o⟩
 |true=>
  have K:∀q,AD o.path=q->AU p=fun l=>match q with|none=>IU l|some ts=>FA ts l:=fun q hq=>by funext l e w';rw[aq.o];unfold AU;rw[hq];cases q<;>rfl
  cases hp:AD o.path with
  |none=>
   rw[K _ hp]at HP;clear K;have M:=hZ hp;clear hp
   go_wp2_with(first
  |(go_at_call_of 30 (Vl.bool true);refine(Bv _ _).mono ?_;rintro e w2 ⟨rfl,rfl⟩)
  |(go_at_call_of 49 (Vl.string p);refine(HP.o _ W.o).mono ?_;rintro e N ⟨⟨te,xe,rfl⟩,C⟩;have L:=hZ (aB.o.kept C);have y4:=L.o.cell 4;have z4:∀j,N.frozen? ⟨w.heap.size+1+1,j,nN⟩=false:=fun j=>L.o.frozen j;unfold Db at y4;simp only[Qa,Qb]at y4;have H3:=UD (Chg w N []) (W.o.trans C);clear C)
  |(go_at_call_of 30 (Vl.bool false);refine(Bu _ _).mono ?_;rintro e T ⟨D,h⟩;unfold By at D;subst D;have P:=UD (Chg w T []) (Chg.trans (b:=_) (by exact H3.o.setCell _ _ z0t) h);clear h))
   rw[Co.no (n:=171) (LT Q.o (.inl M.o)) ZM];exact⟨rfl,rfl,P.o⟩
  |some ts=>
   rw[K _ hp]at HP;clear K;have M:=hZ hp;clear hp
   go_upto_region 7 with(first
  |(go_at_call_of 30 (Vl.bool true);refine(Bv _ _).mono ?_;rintro e w2 ⟨rfl,rfl⟩)
  |(go_at_call_of 49 (Vl.string p);refine(HP.o _ W.o).mono ?_;rintro e N ⟨bg,rfl,t,z,C⟩;obtain⟨r,s,c1,rfl⟩:=AK.cut t;have Q1:=hZ t;have Q2:=hZ z;have L:=hZ (aB.o.kept C);have aP:=hZ (aO.o.kept C);have aM:=hZ (a0.o.kept C);have y4:=L.o.cell 4;have z4:∀j,N.frozen? ⟨w.heap.size+1+1,j,nN⟩=false:=fun j=>L.o.frozen j;unfold Db at y4;simp only[Qa,Qb]at y4;have H3:=UD (Chg w N []) (W.o.trans C);have l3:=L.o.lt;clear C t z))
   have be:=W.o.size;have ao:=UD (∀b,(Vl.slice r s c1).ownBlock=nM b->w1.heap.size<=b) fun b d=>Q2.o.ge b (by rw[d];simp);have bd:=aB.o.lt;have aT:∀w',AK w' (nS r s c1) 9 (Ad ts)->JC w' (fun b=>(Vl.slice r s c1).ownBlock=nM b) (nS r s c1) ts:=fun w' h=>LL h M.o X.o.path cR;have HT:=hZ aT;obtain⟨U,aA⟩:=Ue (N.setCell ⟨w.heap.size+1+1,4,nN⟩ (nS r s c1));have ad:=UD (Chg N U [w.heap.size+1+1]) (by rw[aA];exact(Chg.refl N _).setCell _ _ Zh);have I:=hZ (L.o.set 4 (nS r s c1));rw[<-aA]at I;have B:=UD (Chg w U []) (Chg.fresh H3.o ad.o (fun y hy=>by simp at hy;omega));have a4:=hZ (aP.o.kept ad.o z0t);have aC:=hZ (aM.o.kept ad.o);have ap:=UD (AK U (nS r s c1) 9 (Ad ts)) (Q1.o.kept ad.o (fun g u m=>by have:=ao.o g u;simp at m;omega));rw[<-aA];clear aA aT ad L aP aM H3 Q1 Q2;obtain⟨_,_,_,_,x2,x3⟩:=a4.o.cells4;have y5:=I.o.cell 5;have y6:=I.o.cell 6;have z5:∀j,U.frozen? ⟨w.heap.size+1+1,j,nN⟩=false:=fun j=>I.o.frozen j;have l5:=I.o.lt;simp only[Db,Qa,Qb,List.set_cons_zero,List.set_cons_succ]at y5 y6;cases uf with
   |true=>
    have ai:uv=false:=by
     cases uv with
     |false=>rfl
     |true=>have:=Nd J.o;rw[R.o]at this;cases this
    subst ai;have K:∀q,AD o.frm=q->AU f=fun l=>match q with|none=>IU l|some ts=>FA ts l:=fun q hq=>by funext l e w';rw[an.o];unfold AU;rw[hq];cases q<;>rfl
    cases aa:AD o.frm with
    |none=>
     rw[K _ aa]at af;clear K;have ag:=hZ aa;clear aa
     go_wp2_with(first
     |(go_at_call 49;refine(af.o _ B.o).mono ?_;rintro e G ⟨⟨te,xe,rfl⟩,v⟩;have O:=hZ (I.o.kept v);have u5:=O.o.cell 5;have z6:∀j,G.frozen? ⟨w.heap.size+1+1,j,nN⟩=false:=fun j=>O.o.frozen j;simp only[Db,Qa,Qb,List.set_cons_zero,List.set_cons_succ]at u5;have H6:=UD (Chg w G []) (B.o.trans v);clear v)
     |(go_at_call_of 30 (Vl.bool false);refine(Bu _ _).mono ?_;rintro e T ⟨D,h⟩;unfold By at D;subst D;have P:=UD (Chg w T []) (Chg.trans (b:=_) (by exact H6.o.setCell _ _ z0t) h);clear h))
     rw[Co.no (LT Q.o (.inr ⟨R.o,ag.o⟩)) ZM];exact⟨rfl,rfl,P.o⟩
    |some fs=>
     rw[K _ aa]at af;clear K;have ag:=hZ aa;clear aa
     go_wp2_with(first
     |(go_at_call_of 30 (Vl.bool true);refine(Bv _ _).mono ?_;rintro e w2 ⟨rfl,rfl⟩)
     |(go_at_call 49;refine(af.o _ B.o).mono ?_;rintro e G ⟨bh,rfl,t,z,v⟩;obtain⟨Y,m2,Z,rfl⟩:=AK.cut t;have P1:=hZ t;have P2:=hZ z;have ak:=hZ v;have O:=hZ (I.o.kept v);have a1:=hZ (aC.o.kept v);have u5:=O.o.cell 5;have z6:∀j,G.frozen? ⟨w.heap.size+1+1,j,nN⟩=false:=fun j=>O.o.frozen j;have l6:=O.o.lt;simp only[Db,Qa,Qb,List.set_cons_zero,List.set_cons_succ]at u5;clear v t z)
     |(refine uN (O.o.set 5 (nS Y m2 Z)) ?_)
     |(refine uO (ds:=[nI nX k,nG p,nG f,nS a n c,nS r s c1,nS Y m2 Z,.nilIface]) (a1.o.set_other _ _ Zh) z0w ?_;intro H ae E))
     have F:=ao.o;have ba:=B.o.size;have aI:∀b,(Vl.slice Y m2 Z).ownBlock=nM b->U.heap.size<=b:=fun b d=>P2.o.ge b (by rw[d];simp);have aW:Chg G (G.setCell ⟨w.heap.size+1+1,5,nN⟩ (nS Y m2 Z)) [w.heap.size+1+1]:=(Chg.refl G _).setCell _ _ Zh;have ah:AK H (nS r s c1) 9 (Ad ts):=((ap.o.kept ak.o).kept aW (fun g u m=>by have:=F g u;simp at m;omega)).kept E.o (fun g u m=>by have:=F g u;simp at m;omega);have a7:AK H (nS Y m2 Z) 9 (Ad fs):=(P1.o.kept aW (fun g u m=>by have:=aI g u;simp at m;omega)).kept E.o (fun g u m=>by have:=aI g u;simp at m;omega);refine bodyPost_ret (uP ae.o) rfl ?_;have hC:Chg w H []:=Chg.step (b:=_) (by exact(B.o.trans ak.o).setCell _ _ z0t) E.o (fun i hi hl=>by simp at hi;omega);refine Co.yes (path:=ts) (frm:=fs) (x:= .null) (by rw[GH Q.o (by rw[M.o,ag.o];simp),J.o];simp) ⟨_,_,_,[],(fun b=>(Vl.slice r s c1).ownBlock=nM b),(fun b=>(Vl.slice Y m2 Z).ownBlock=nM b),by rw[aE.o,aq.o,an.o,aH.o,aF.o],⟨HT.o _ ah,(fun _=>LL a7 ag.o X.o.frm cR),(fun e=>by rw[J.o]at e;cases e),M.o,(fun _=>ag.o),X.o.frm⟩,BP.nil _,(fun b d=> ?_),(fun b d=> ?_),(fun b d=>by cases d),hC,rfl,rfl⟩ (fun e=>by rw[J.o]at e;cases e)
     .have:=F b d;omega
     .have:=aI b d;omega
   |false=>
    have aV:¬(AD o.path=nN\/(AO o.kind=true/\AD o.frm=nN)):=by rw[M.o,R.o];simp
    have aG:=hZ aV;clear aV;cases uv with
    |false=>
     go_wp2_with(first
     |(refine uN I.o ?_)
     |(refine uO (ds:=[nI nX k,nG p,nG f,nS a n c,nS r s c1,nS nN 0 0,.nilIface]) aC.o z0w ?_;intro H ae E))
     have F:=ao.o;have ah:AK H (nS r s c1) 9 (Ad ts):=ap.o.kept E.o (fun g u m=>by have:=F g u;simp at m;omega);refine bodyPost_ret (uP ae.o) rfl ?_;have hC:Chg w H []:=Chg.fresh B.o E.o (fun i hi=>by simp at hi;omega);refine Co.yes (path:=ts) (frm:=[]) (x:= .null) (by rw[GH Q.o aG.o,J.o];simp) ⟨_,_,_,[],(fun b=>(Vl.slice r s c1).ownBlock=nM b),(fun _=>False),by rw[aE.o,aq.o,an.o,aH.o,aF.o],⟨HT.o _ ah,(fun e=>by rw[R.o]at e;cases e),(fun e=>by rw[J.o]at e;cases e),M.o,(fun e=>by rw[R.o]at e;cases e),X.o.frm⟩,BP.nil _,(fun b d=> ?_),(fun b d=>d.elim),(fun b d=>by cases d),hC,rfl,rfl⟩ (fun e=>by rw[J.o]at e;cases e);have:=F b d;omega
    |true=>
     have al:=UD (∀l,Chg w l []->Cl prog 16 #[nS a n c] l fun e w'=>(match AS o.steps with
      |some x=>∃(V:Nat->Prop) (tb:Nat),e= nR (nT #[nP (nM ⟨tb,0,nN⟩),.nilIface])/\CG w' V tb x/\∀b,V b->b<w'.heap.size
      |none=>∃(ti:Ti) (xe:Vl),e= nR (nT #[nP nN,nF ti xe]))/\Chg l w' []) fun l A=>(HB.o l A).mono fun e w' h=>by
      unfold BO at h;refine⟨?_,h.2⟩;have h:=h.1;unfold AS;split
      .rename_i x A;rw[A]at h;obtain⟨V,tb,S,h2,C,_⟩:=h;exact⟨V,tb,S,h2,C⟩
      .rename_i A;rw[A]at h;exact h
     clear HB;cases d:AS o.steps with
     |none=>
      rw[d]at al;have am:=hZ d;clear d
      go_wp2_with(first
      |(go_at_call 16;refine(al.o _ B.o).mono ?_;rintro e G ⟨⟨te,xe,rfl⟩,v⟩;have H6:=UD (Chg w G []) (B.o.trans v);clear v)
      |(go_at_call_of 30 (Vl.bool false);refine(Bu _ _).mono ?_;rintro e T ⟨D,h⟩;unfold By at D;subst D;have P:=UD (Chg w T []) (H6.o.trans h);clear h))
      rw[Co.no (n:=174) (by rw[GH Q.o aG.o,J.o,am.o];simp) ZM];exact⟨rfl,rfl,P.o⟩
     |some x=>
      rw[d]at al;have am:=hZ d;have aU:=FD X.o.steps d;have aD:=hZ aU;clear d aU
      go_wp2_with(first
      |(go_at_call_of 30 (Vl.bool true);refine(Bv _ _).mono ?_;rintro e w2 ⟨rfl,rfl⟩)
      |(go_at_call 16;refine(al.o _ B.o).mono ?_;rintro e G ⟨⟨V,tb,rfl,t,z⟩,v⟩;have T1:=hZ t;have T2:=hZ z;have ak:=hZ v;clear v t z)
      |(go_at_call 33;refine(M9 x V tb _ T1.o T2.o (Ar aD.o.fits).1).mono ?_;rintro e w9 ⟨vv,GG,rfl,t,h9,z⟩;have V1:=hZ t;have V2:=hZ z;have aR:=hZ (ak.o.trans h9);clear h9 t z)
      |(go_at_call 42;refine(ab _ x GG vv _ (Q8 _) (Ar aD.o.fits).1 V1.o (fun b d=>(V2.o b d).2)).mono ?_;rintro e w8 ⟨vx,bx,rfl,t,z,h8⟩;have ar:=aR.o.trans h8;have aQ:=hZ ar;have N2:=hZ z;obtain⟨tx,xx,rfl⟩:=t.iface;have N1:=hZ t;have aj:=hZ (I.o.kept ar);have a2:=hZ (aC.o.kept ar);have u6:=aj.o.cell 6;have z8:∀j,w8.frozen? ⟨w.heap.size+1+1,j,nN⟩=false:=fun j=>aj.o.frozen j;have l8:=aj.o.lt;simp only[Db,Qa,Qb,List.set_cons_zero,List.set_cons_succ]at u6;clear h8 ar t z)
      |(refine uN (aj.o.set 6 (nF tx xx)) ?_)
      |(refine uO (ds:=[nI nX k,nG p,nG f,nS a n c,nS r s c1,nS nN 0 0,nF tx xx]) (a2.o.set_other _ _ Zh) z0w ?_;intro H ae E))
      have F:=ao.o;have ba:=B.o.size;have bf:=aR.o.size;have a9:∀b,(Vl.slice r s c1).ownBlock=nM b->b<U.heap.size:=fun b d=>ap.o.lt d;have au:∀b,b∈bx->U.heap.size<=b:=fun b d=>by have:=N2.o.ge b d;omega
      have aX:Chg w8 (w8.setCell ⟨w.heap.size+1+1,6,nN⟩ (nF tx xx)) [w.heap.size+1+1]:=(Chg.refl w8 _).setCell _ _ Zh;have ah:AK H (nS r s c1) 9 (Ad ts):=((ap.o.kept aQ.o).kept aX (fun g u m=>by have:=F g u;simp at m;omega)).kept E.o (fun g u m=>by have:=F g u;simp at m;omega);have a8:AP H x (nF tx xx) bx:=(N1.o.chg aX (fun b d m=>by have:=au b m;simp at d;omega)).chg E.o (fun b d m=>by have:=au b m;simp at d;omega);refine bodyPost_ret (uP ae.o) rfl ?_;have hC:Chg w H []:=Chg.step (b:=_) (by exact(B.o.trans aQ.o).setCell _ _ z0t) E.o (fun i hi hl=>by simp at hi;omega);refine Co.yes (path:=ts) (frm:=[]) (x:=x) (by rw[GH Q.o aG.o,J.o,am.o];simp) ⟨_,_,_,bx,(fun b=>(Vl.slice r s c1).ownBlock=nM b),(fun _=>False),by rw[aE.o,aq.o,an.o,aH.o,aF.o],⟨HT.o _ ah,(fun e=>by rw[R.o]at e;cases e),(fun _=>⟨a8,aD.o⟩),M.o,(fun e=>by rw[R.o]at e;cases e),X.o.frm⟩,⟨N2.o.nodup,fun b d=>by have:=au b d;omega⟩,(fun b d=>by have:=F b d;omega),(fun b d=>d.elim),(fun b d=>⟨fun h=>by have:=au b d;have:=a9 b h;omega,fun h=>h⟩),hC,rfl,rfl⟩ (fun _=>am.o)
theorem VL{t:Tr}(h:Bn o=0)(j:AD o.path=nM path)(g:AO o.kind=true->AD o.frm=nM frm)(f:AN o.kind=true->AS o.steps=nM x):
  Da t o path frm x=Gz t o:=by
 unfold Gz;rw[h,Qs Zh,j,Option.getD_some];unfold Da;by_cases a:o.kind=1
 .rw[Qr a,Qr a,f (by rw[a];rfl)];rfl
 rw[Qs a,Qs a];by_cases e:o.kind=2
 .rw[Qr e,Qr e]
 rw[Qs e,Qs e];by_cases b:o.kind=3
 .rw[Qr b,Qr b,f (by rw[b];rfl)];rfl
 rw[Qs b,Qs b];by_cases c:o.kind=4
 .rw[Qr c,Qr c,g (by rw[c];rfl)];rfl
 rw[Qs c,Qs c];by_cases d:o.kind=5
 .rw[Qr d,Qr d,g (by rw[d];rfl)];rfl
 rw[Qs d,Qs d]
 have i:o.kind=6:=by
  have:=(EK h).1;omega
 rw[f (by rw[i];rfl)];rfl
end
section
open Go Go.RowKit Tree Ptr
variable{o:Bq}{ts:List BY}{t:Tr}
structure fN(r:CW):Prop where
 path:r.path.size<=16777216
 frm:r.frm.size<=16777216
 steps:r.steps=[]\/∃u,Bt u/\r.steps=Ai u
theorem fN.ops{r:CW}(h:fN r):T7 r.toI:=by
 rcases h.steps with e|⟨u,b,e⟩
 .exact⟨h.path,h.frm,(fun s a=>by unfold CW.toI at a;rw[e]at a;cases a),by show(r.steps.map Aw.toI).length<=_;rw[e];decide⟩
 .refine⟨h.path,h.frm,fun s a=> ?_, ?_⟩
  .unfold CW.toI at a;rw[e]at a;exact KI b s a
  .show(r.steps.map Aw.toI).length<=_
   rw[e];have c:=Ju u;have d:=(Ar b.fits).1;unfold MW at c;omega
def fH(ts:List BY):Prop:=(A6 ts).size<=1048576
theorem fO{s:BY}(h:AD s=nM ts)(a:s.size<=1048576):fH ts:=by unfold fH;rw[JZ h];exact a
theorem fC(a b:List BY):(A6 (a++b)).size=(A6 a).size+(A6 b).size:=by
 have h:=congrArg List.length (YL a b);rw[Qk]at h;exact h
theorem fF(k:Nat)(h:k<100000):(A6 [⟨(Go.Lib.decDigits k).toArray⟩]).size<=11:=by
 have b:=(IX 5 k h).resolve_right Zj
 have a:∀l:List UInt8,(esc l).length<=2*l.length:=by
  intro l;induction l with
  |nil=>simp[esc]
  |cons c l e=>
   rw[esc,Qk,Qj];split
   .simp;omega
   .split
    .simp;omega
    .simp;omega
 have d:=a (Go.Lib.decDigits k);show((Bl [Go.Lib.decDigits k]).toArray).size<=11
 rw[List.size_toArray];simp only[Bl,List.append_nil,Qj];omega
theorem fB{u:Tr}{k:Nat}{c:List BY}(h:Bt t)(a:Ah t c=nM u)(b:fH ts):fN ⟨k,A6 ts,Dz,Ai u⟩:=
 ⟨Q7 b ZM,by show Dz.size<=_;rw[Z4];omega,.inr ⟨u,h.lead a,rfl⟩⟩
theorem fA(h:Bt t)(g:fH ts):fN (Dd t ts):=by
 have a:Dz.size<=16777216:=by rw[Z4];omega
 unfold Dd;split
 .exact⟨a,a,.inr ⟨t,h,rfl⟩⟩
 .rename_i f;have b:(A6 (ts.dropLast++[AH ts])).size<=16777216:=by rw[CL ts f];exact Q7 g ZM
  cases m:Ah t ts.dropLast with
  |none=>exact⟨b,a,.inl rfl⟩
  |some p=>
   rw[Option.getD_some];have c:=h.lead m;cases p with
   |obj ks l=>
    unfold GF;simp only;split
    .rename_i k;have q:=Dk (Cp.1 k);have o:ks.length=l.length:=c.good.2.1
     have e:l.getD (A5 ks (AH ts)) .null∈l:=by
      rw[List.getD_eq_getElem?_getD,Q9 Zj,Option.getD_some];exact List.getElem_mem _
     exact⟨b,a,.inr ⟨_,⟨c.good.items _ e,C8 c.fits e⟩,rfl⟩⟩
    .exact⟨b,a,.inl rfl⟩
   |list l=>
    unfold GF;simp only[Eo];by_cases d:AH ts=IN
    .rw[Qr d];refine⟨?_,a,.inl rfl⟩;have i:=c.many;have n:=fF l.length (by simp only[Ab]at i;omega);have j:=fC ts.dropLast [AH ts];rw[CL ts f]at j;unfold fH at g;show(A6 (ts.dropLast++[_])).size<=_
     rw[fC];omega
    .rw[Qs d];exact⟨b,a,.inl rfl⟩
   |_=>exact⟨b,a,.inl rfl⟩
theorem fM{B:Tr}{v:List CW}(h:Bt t)(y:o.path.size<=1048576)(s:o.frm.size<=1048576)(b:Gz t o= .yes B v):∀r∈v,fN r:=by
 have g:∀{a:CW},fN a->∀r∈[a],fN r:=fun q r d=>by simp at d;subst d;exact q
 unfold Gz at b;split at b
 .cases b
 .rename_i n;obtain⟨C,⟨path,j⟩,k,_⟩:=EK (by simpa using n);have i:=fO j y;rw[j,Option.getD_some]at b;unfold Da at b;split at b
  .obtain⟨_,_,rfl,_⟩:=Fd b;exact g (fA h i)
  .split at b
   .split at b
    .cases b
    .cases c:Ah t path with
     |none=>rw[c]at b;cases b
     |some u=>rw[c]at b;injection b with _ b;subst b;exact g (fB h c i)
   .split at b
    .cases c:Ah t path with
     |none=>rw[c]at b;cases b
     |some u=>
      rw[c]at b;obtain⟨_,rfl,_⟩:=Ib b;exact g (fB h c i)
    .split at b
     .rename_i z;split at b
      .cases b
      .rename_i l;obtain⟨frm,f⟩:=k (by rw[z];rfl);have w:=fO f s;rw[f,Option.getD_some]at b;cases c:Ah t frm with
       |none=>rw[c]at b;cases b
       |some u=>
        rw[c]at b;simp only at b;split at b
        .injection b with _ b;subst b;exact fun r d=>by cases d
        .rename_i m;obtain⟨_,_,rfl,_⟩:=Fd b
         have x:frm≠[]:=by
          intro e;subst e;have p:=(D7 f).1 rfl;rw[p]at l m;have:=Jb j (by simpa using l);exact m ((D7 j).1 this)
         intro r d;rcases Qh.1 d with rfl|d
         .exact fA (h.cut x c) i
         .exact g (fB h c w) r d
     .split at b
      .rename_i A;obtain⟨frm,f⟩:=k (by rw[A];rfl);rw[f,Option.getD_some]at b;cases c:Ah t frm with
       |none=>rw[c]at b;cases b
       |some u=>
        rw[c]at b;obtain⟨_,_,rfl,_⟩:=Fd b;exact g (fA h i)
      .cases c:Ah t path with
       |none=>rw[c]at b;cases b
       |some u=>
        rw[c]at b;simp only at b;split at b
        .injection b with _ b;subst b;exact fun r d=>by cases d
        .cases b
theorem fK:∀{l:List Bq} {t f:Tr} {u v:List CW} {i:Nat},Bt t->(∀o∈l,ZL o/\o.path.size<=1048576/\o.frm.size<=1048576)->(∀r∈u,fN r)->BR t u i l= .yes f v->∀r∈v,fN r
 |[],t,f,u,v,i,_,_,d,h=>by simp only[BR]at h;injection h with _ h;subst h;exact d
 |o::l,t,f,u,v,i,j,g,d,h=>by
  simp only[BR]at h;have c:=g o Zh;cases b:Gz t o with
  |no e=>rw[b]at h;cases h
  |yes s w=>
   rw[b]at h;refine fK (LX j c.1 b) (fun p k=>g p (by simp[k])) (fun r a=> ?_) h;rcases Qf.1 a with a|a
   .exact fM j c.2.1 c.2.2 b r a
   .exact d r a
def fy(o:Bq):Bq:=(WZ o).toI
theorem fz(h:Bn o=0)(f:∀s∈o.steps,Di s)(c:AN o.kind=true):∃x,AS o.steps=nM x/\Bt x/\(fy o).steps=MW x/\AS (fy o).steps=nM x:=by
 obtain⟨_,_,_,d⟩:=EK h;obtain⟨x,b⟩:=d c;have a:=FD f b;have e:(fy o).steps=MW x:=by unfold fy WZ CW.toI MW;simp only[c,if_true,b,Option.getD_some]
 exact⟨x,b,a,e,by rw[e];exact FE a.good a.fits⟩
theorem fE(a:AN o.kind=false):(fy o).steps=[]:=by unfold fy WZ CW.toI;simp[a]
theorem fJ(h:1<=o.kind):(fy o).kind=o.kind:=by unfold fy WZ CW.toI;simp only;omega
theorem fL:(fy o).frm=Dz\/(fy o).frm=o.frm:=by
 unfold fy WZ CW.toI;simp only;split
 .exact .inr rfl
 .exact .inl rfl
theorem fD(h:Bn o=0)(g:∀s∈o.steps,Di s):OK (fy o)=OK o/\Bn (fy o)=0:=by
 obtain⟨k,⟨ts,l⟩,j,_⟩:=EK h;have ek:=fJ (o:=o) k.1;have f:(fy o).path=o.path:=rfl;have e:AO o.kind=true->(fy o).frm=o.frm:=fun d=>by unfold fy WZ CW.toI;simp[d]
 have ev:AN o.kind=true->AS (fy o).steps=AS o.steps:=fun d=>by
  obtain⟨x,a,_,_,b⟩:=fz h g d;rw[a,b]
 constructor
 .unfold OK;rw[ek,f];unfold Ze;split
  .rename_i i;rw[e (by unfold AO;simp;omega)]
  .split
   .rename_i i;rw[ev (by unfold AN;simp;omega)]
   .rfl
 .unfold Bn;rw[ek,f,Qs Zj,Qs,Qs]
  .rintro⟨a,b⟩;obtain⟨x,_,_,_,c⟩:=fz h g a;rw[c]at b;cases b
  .rintro(a|⟨a,b⟩)
   .rw[l]at a;cases a
   .rw[e a]at b;obtain⟨m,c⟩:=j a;rw[c]at b;cases b
theorem fI:∀{a:List Bq} {l:List Tr} {i:Nat} {t:Tr},(∀o∈a,∀s∈o.steps,Di s)->Sp l i a= .yes t->Sp l i (a.map fy)= .yes t
 |[],l,i,t,_,h=>h
 |o::r,l,i,t,b,h=>by
  simp only[Sp,List.map_cons]at h|-;split at h
  .cases h
  .rename_i e;obtain⟨c,d⟩:=fD (by simpa using e) (b o Zh);rw[c,d,Qs Zh];split at h
   .rename_i g;rw[Qr g];exact fI (fun p f=>b p (by simp[f])) h
   .cases h
theorem gz(h:Bn o=0)(g:∀s∈o.steps,Di s)(j:o.path.size<=1048576)(i:o.frm.size<=1048576):T7 (fy o)/\(fy o).path.size<=2097152/\(fy o).frm.size<=2097152:=by
 have e:(fy o).frm.size<=1048576:=by
  rcases fL (o:=o)with e|e
  .rw[e,Z4];omega
  .rw[e];exact i
 have f:(fy o).path.size<=1048576:=j;refine⟨⟨Q7 f ZM,Q7 e ZM,fun s b=> ?_, ?_⟩,Q7 f ZM,Q7 e ZM⟩
 .cases a:AN o.kind with
  |false=>rw[fE a]at b;cases b
  |true=>
   obtain⟨x,_,c,d,_⟩:=fz h g a;rw[d]at b;exact KI c s b
 .cases a:AN o.kind with
  |false=>rw[fE a];decide
  |true=>
   obtain⟨x,_,c,d,_⟩:=fz h g a;rw[d,Ju];have:=(Ar c.fits).1;omega
end
section
open Go Go.Shelf Go.RowKit Go.Lib Tree Ptr
variable{os:List Bq}{bs cs:List Nat}{vs xs:List Vl}{W:Nat}{G G2:Nat->Prop}{t:Tr}{v v':Vl}{k w w' w0:Wl}
def CI(w:Wl)(G:Nat->Prop):List (List Bq)->List Vl->Prop
 |[],vs=>vs=[]
 |os::b,vs=>∃a xs r,vs=a::r/\As w a 4 os.length xs/\SE G a/\Eh w G os xs/\CI w G b r
theorem CI.kept{F:Nat->Prop}(d:i3 F w w')(c:∀b,F b->G b):∀{a:List (List Bq)} {vs:List Vl},CI w F a vs->CI w' G a vs
 |[],_,h=>h
 |os::a,_,⟨k,xs,r,f,g,e,i,j⟩=>⟨k,xs,r,f,g.keptF e d.keeps,e.mono c,i.kept d c,j.kept d c⟩
theorem CI.snoc{b:Vl}(d:As w b 4 os.length xs)(e:SE G b)(f:Eh w G os xs):∀{c:List (List Bq)} {vs:List Vl},CI w G c vs->CI w G (c++[os]) (vs++[b])
 |[],_,h=>by unfold CI at h;subst h;exact⟨b,xs,[],rfl,d,e,f,rfl⟩
 |a::c,_,⟨m,n,r,g,i,j,k,l⟩=>⟨m,n,r++[b],by rw[g];rfl,i,j,k,l.snoc d e f⟩
theorem CI.length:∀{b:List (List Bq)} {vs:List Vl},CI w G b vs->vs.length=b.length
 |[],_,h=>by unfold CI at h;subst h;rfl
 |a::b,_,⟨i,xs,r,c,e,f,g,d⟩=>by rw[c,Qj,d.length];rfl
theorem CI.get:∀{d:List (List Bq)} {vs:List Vl},CI w G d vs->∀(i:Nat) (os:List Bq),d[i]? =nM os->∃c xs,vs[i]? =nM c/\As w c 4 os.length xs/\SE G c/\Eh w G os xs
 |[],_,_,i,os,b=>by simp at b
 |a::d,_,⟨c,xs,r,e,f,g,h,j⟩,i,os,b=>by
  subst e;cases i with
  |zero=>simp at b;subst b;exact⟨c,xs,rfl,f,g,h⟩
  |succ i=>obtain⟨m,n,k,l⟩:=j.get i os (by simpa using b);exact⟨m,n,by simpa using k,l⟩
theorem CI.one:∀{d:List (List Bq)} {vs:List Vl},CI w G d vs->∀u∈vs,u.oneCell'=true
 |[],_,h,u,b=>by unfold CI at h;subst h;cases b
 |a::d,_,⟨l,xs,r,e,f,j,k,g⟩,u,b=>by
  subst e;obtain⟨i,c,rfl,_⟩:=f.form;rcases Qh.1 b with rfl|b
  .rfl
  .exact g.one u b
structure PO(w0 w:Wl)(W:Nat)(t:Tr)(gs:List (List Bq))(v uv:Vl)(bs:List Nat)(vs:List Vl)(G:Nat->Prop):Prop where
 wat:Hu w W t v uv bs
 nodup:(W::bs).Nodup
 ge:∀b,b∈W::bs->w0.heap.size<=b
 row:AK w uv 23 vs
 grp:CI w G gs vs
 gnew:∀b,G b->w0.heap.size<=b/\b<w.heap.size
 gap:∀b,b∈W::bs->¬G b
 uown:∀g,uv.ownBlock=nM g->w0.heap.size<=g/\g∉W::bs/\¬G g
def Dj(W:Nat)(a:Vl)(bs:List Nat):List Nat:=a.ownBlock.toList++W::bs
theorem PO.kept{i:List (List Bq)}{f:Vl}(h:PO w0 w W t i v f bs vs G)(c:Chg w w' cs)(d:∀b,b∈cs->b∉Dj W f bs/\¬G b:=by simp):PO w0 w' W t i v f bs vs G:=by
 have k:i3 G w w':=c.keepsB (fun b a=>(h.gnew b a).2) (fun b a=>(d b a).2);refine⟨h.wat.kept c (fun b a e=>(d b a).1 (Qd _ e)),h.nodup,h.ge,h.row.kept c (fun g j e=>(d g e).1 (Qe _ (by simp[j]))),h.grp.kept k (fun _ h=>h),(fun b a=> ?_),h.gap,h.uown⟩;have:=h.gnew b a;have:=c.size;omega
theorem PO.ltAll{d:List (List Bq)}{c:Vl}(h:PO w0 w W t d v c bs vs G):∀b,b∈Dj W c bs->b<w.heap.size:=by
 intro b a;rcases Qf.1 a with a|a
 .exact h.row.lt (by simpa using a)
 .rcases Qh.1 a with rfl|a
  .exact h.wat.blk.lt
  .exact AP.lt _ _ _ h.wat.at_ b a
structure Y3(w4 w:Wl)(W:Nat)(uv:Vl)(old:List Nat)(t':Tr)(os:List Bq)(sl:Vl)(xs:List Vl)(G2:Nat->Prop)(v':Vl)(bs':List Nat):Prop where
 ops:EW w4 w os sl xs G2
 wat:Hu w W t' v' uv bs'
 own:DJ w4 old (W::bs')
 apart:∀b,b∈W::bs'->¬G2 b
theorem Y3.kept{j:Vl}{f:List Nat}{i:Tr}{g:Vl}{a:List Nat}(h:Y3 k w W j f i os g xs G2 v' a)(d:Chg w w' cs)(e:∀b,b∈cs->b∉W::a/\¬G2 b:=by simp):Y3 k w' W j f i os g xs G2 v' a:=
 ⟨h.ops.kept d (fun b c=>(e b c).2) (Q8 _),h.wat.kept d (fun b c=>(e b c).1),h.own,h.apart⟩
theorem PO.next{s:Tr}{x:List (List Bq)}{m u:Vl}{q l:List Nat}{g n c:Nat}(h:PO w0 k W t x v m bs vs G)(A:∀b,b∈q->w0.heap.size<=b/\¬G b/\m.ownBlock≠nM b)(f:Y3 k w W m (W::(q++bs)) s os u xs G2 v' l)(K:∀b,b∈cs->b<k.heap.size->b∈m.ownBlock.toList++W::(q++bs))(B:Chg k w cs)(J:AK w (nS (nM ⟨g,0,nN⟩) n c) 23 (vs++[u]))(j:m.ownBlock=nM g\/k.heap.size<=g)(C:g∉W::l)(L:¬G2 g)(R:w0.heap.size<=k.heap.size)(p:Chg w w' [W])(H:Ac w' W [v',nI nX (Ag s).nodes,nI nX (Ag s).bytes,nS (nM ⟨g,0,nN⟩) n c] 69):
  PO w0 w' W s (x++[os]) v' (nS (nM ⟨g,0,nN⟩) n c) l (vs++[u]) (fun b=>G b\/G2 b):=by
 have O:∀b,b∈l->b≠W:=fun b a e=>by subst e;exact(List.nodup_cons.1 f.own.nodup).1 a
 have z:W∈W::l:=Zh;have y:¬G W:=h.gap W Zh
 have E:∀b,b∈m.ownBlock.toList++W::(q++bs)->¬G b:=fun b a=>by
  rcases Qf.1 a with a|a
  .exact(h.uown b (by simpa using a)).2.2
  .rcases Qh.1 a with rfl|a
   .exact y
   .rcases Qf.1 a with a|a
    .exact(A b a).2.1
    .exact h.gap b (Qg _ a)
 have M:i3 G k w:=B.keepsB (fun b a=>(h.gnew b a).2) (fun b a d=>E b (K b a (h.gnew b d).2) d);have P:=B.size;have N:i3 G w w':=p.keepsB (fun b a=>Q6 (h.gnew b a).2 P) (fun b a=>by simp at a;subst a;exact y);have D:i3 G2 w w':=p.keepsB (fun b a=>(f.ops.new b a).2) (fun b a=>by simp at a;subst a;exact f.apart _ z)
 have I:∀b,b∈W::l->¬G b:=fun b a d=>by
  rcases f.own.come b a with i|i
  .exact E b (Qd _ i) d
  .have:=(h.gnew b d).2;omega
 have S:=p.size;refine⟨⟨H,f.wat.at_.chg p (fun b a r=>by simp at a;exact O b r a),f.wat.fine⟩,f.own.nodup,fun b a=> ?_,J.kept p (fun F o r=> ?_), ?_,fun b a=> ?_,fun b a d=> ?_,fun F o=> ?_⟩
 .rcases f.own.come b a with i|i
  .rcases Qh.1 i with rfl|i
   .exact h.ge _ Zh
   .rcases Qf.1 i with i|i
    .exact(A b i).1
    .exact h.ge b (Qg _ i)
  .omega
 .simp[Vl.ownBlock]at o r;subst o;subst r;exact C z
 .have Q:=(h.grp.kept M (fun _ h=>h)).kept N (fun b a=>(Or.inl a:G b\/G2 b));exact Q.snoc (f.ops.row.keptF f.ops.inn D.keeps) (f.ops.inn.mono fun b a=> .inr a) (f.ops.ops.kept D fun b a=> .inr a)
 .rcases a with a|a
  .have:=h.gnew b a;omega
  .have:=f.ops.new b a;omega
 .rcases d with d|d
  .exact I b a d
  .exact f.apart b a d
 .simp[Vl.ownBlock]at o;subst o;refine⟨?_,C,fun d=> ?_⟩
  .rcases j with j|j
   .exact(h.uown _ j).1
   .omega
  .rcases d with d|d
   .rcases j with j|j
    .exact(h.uown _ j).2.2 d
    .have:=(h.gnew _ d).2;omega
   .exact L d
end
section
open _root_.Go.Proofs.Tryz
open Go Go.Shelf Go.RowKit Go.Lib Tree Ptr
variable{a:Act}{K:Act->Wl->Prop}{o:Bq}{e:Ending}{Q:Exit->Act->Wl->Prop}{b:Int}{frm path:List BY}{bs:List Nat}{vs:List Vl}{D W j k m n:Nat}{d:Nat->Bool}{G:Nat->Prop}{f:Nat->Vl}{V:Nat->Vl->Prop}{P:Program}{p:Prop}{t x:Tr}{c slp sv v:Vl}{g w w' w0 wr:Wl}
theorem Ru{o:Oper}(r x:Operand)(q:Array Ti)(i:o.op= .call {callee:= .value r,args:=#[x],argTypes:=q})(n:Nat)(p u:Vl)(l:a.eval r= .func (.func n) #[p] #[])(m:a.eval x=u)(f:(callFunc n #[p,u]).run P w= .ok (.enter n #[p,u]) w)(R:Ending->Wl->Prop)(d:Cl P n #[p,u] w R)(c:∀e w2,R e w2->(∃v,e= nR v/\K (a.put o.dst v) w2)\/(∃b,e= .panicked b/\Q (.panic b) a w2)):Oper.wp P o a w K Q:=by
 unfold Oper.wp
 have g:(execOp a.eval o).run P w= .ok (.enter n #[p,u]) w:=by
  simp[execOp,i,resolve,invoke,l,m,Deferred.ofValue,f]
 rw[g];refine d.mono fun e w2 h=> ?_;rcases c e w2 h with⟨u,rfl,k⟩|⟨b,rfl,j⟩
 .exact k
 .exact j
theorem UR{p:Vl}(h:(HJ W)[m]? =nM (.func (.func n) #[p] #[])):∀(args:Array Vl) (w:Wl),(callFunc n args).run prog w= .ok (.enter n args) w:=by
 have a:m<6:=(Qc.1 h).1;unfold HJ at h;match m,a with
 |0,_=>simp at h;obtain⟨rfl,_⟩:=h;exact fun _ _=>Yb
 |1,_=>simp at h;obtain⟨rfl,_⟩:=h;exact fun _ _=>Yb
 |2,_=>simp at h;obtain⟨rfl,_⟩:=h;exact fun _ _=>Yb
 |3,_=>simp at h;obtain⟨rfl,_⟩:=h;exact fun _ _=>Yb
 |4,_=>simp at h;obtain⟨rfl,_⟩:=h;exact fun _ _=>Yb
 |5,_=>simp at h;obtain⟨rfl,_⟩:=h;exact fun _ _=>Yb
def Y6(w0:Wl)(W:Nat)(g:List (List Bq))(a:Vl)(bs:List Nat)(G:Nat->Prop)(r:PV)(w:Wl)(e:Ending)(w':Wl):Prop:=match r with
 | .no k=>e=By k/\Chg w w' (Dj W a bs)
 | .yes h i=>e= nR (nT #[])/\Chg w w' (Dj W a bs)/\∃v' f d j c,PO w0 w' W h (g++[i.reverse.map CW.toI]) v' f d j c/\(∀b,b∈Dj W f d->b∈Dj W a bs\/w.heap.size<=b)/\∀b,c b->G b\/w.heap.size<=b
def CK(w0:Wl)(W:Nat)(t:Tr)(a:List (List Bq))(b:Vl)(bs:List Nat)(G:Nat->Prop)(o:Bq)(w:Wl)(e:Ending)(w':Wl):Prop:=Y6 w0 W a b bs G (Gz t o) w e w'
theorem UH.kept{e f:Vl}{d:List Nat}{F c:Nat->Prop}(h:UH w o path frm x slp e f d F c)(b:Chg w w' []):UH w' o path frm x slp e f d F c:=
 ⟨h.tpath.kept b,fun a=>(h.tfrm a).kept b,fun a=>⟨(h.val a).1.chg b Zh,(h.val a).2⟩,h.pathP,h.frmP,h.small⟩
theorem I8.below(h:I8 o path frm x sv w e w'):
  ∃slp f g d F c,e= nR (nA #[nI nX o.kind,nG o.path,nG o.frm,sv,slp,f,g])/\UH w' o path frm x slp f g d F c/\BP w d/\(∀b,F b->w.heap.size<=b)/\(∀b,c b->w.heap.size<=b)/\(∀b,b∈d->¬F b/\¬c b)/\(∀b,b∈d->b<w'.heap.size)/\Chg w w' []/\f.oneCell'=true/\g.oneCell'=true:=by
 obtain⟨slp,f,g,d,F,c,i,a,q,j,k,r,l,m,n⟩:=h;by_cases p:AN o.kind=true
 .exact⟨slp,f,g,d,F,c,i,a,q,j,k,r,fun b s=>AP.lt _ _ _ (a.val p).1 b s,l,m,n⟩
 .exact⟨slp,f,g,[],F,c,i,⟨a.tpath,a.tfrm,fun h=>absurd h p,a.pathP,a.frmP,a.small⟩,BP.nil w,j,k,Zh,Zh,l,m,n⟩
theorem aB{k:Int}{p f:BY}{b:Vl}(d:sv.oneCell'=true)(e:slp.oneCell'=true)(g:b.oneCell'=true)(h:c.oneCell'=true):∀u∈[Vl.int nX k,nG p,nG f,sv,slp,b,c],u.oneCell'=true:=by
 intro u a;simp only[Qh,List.not_mem_nil,or_false]at a;rcases a with rfl|rfl|rfl|rfl|rfl|rfl|rfl
 .rfl
 .rfl
 .rfl
 .exact d
 .exact e
 .exact g
 .exact h
theorem Bd{o:Oper}(b:Ti)(x:Operand)(f:o.op= .load b x)(g:Nat)(j:a.eval x= nP (nM ⟨g,0,nN⟩))(T:Ti)(cs:List Vl)(c:Ac w g cs T)(d:TypeDesc)(i:P.underlying b=nM d)(e:(match d with| .struct _| .array _ _=>true|_=>false)=true)(hi:(P.info? b).map (·.size)=nM cs.length)(h:K (a.put o.dst (.agg cs.toArray)) w):Oper.wp P o a w K Q:=
 wp_load_row b x f g j T cs.toArray (0,0) d c i e (by simpa using hi) h
def PD(w0 a:Wl)(W:Nat)(i:Vl)(h:List Nat)(o:List (List Bq))(vs:List Vl)(G:Nat->Prop)(k:PV)(n:Nat)(v:Vl)(w:Wl):Prop:=match n with
 |0=>Chg a w []
 |1=>∃d e xs G2 v' f,k= .yes d e/\Y3 a w W i h d (e.reverse.map CW.toI) v xs G2 v' f/\Chg a w h
 |2=>∃d e xs G2 v' f j g,k= .yes d e/\Y3 a w W i h d (e.reverse.map CW.toI) j xs G2 v' f/\Chg a w h/\v= nS (nM ⟨g,0,nN⟩) 1 1/\Ac w g [j] 23/\a.heap.size<=g/\g∉W::f
 |3=>∃d e xs G2 v' f j g n c,k= .yes d e/\Y3 a w W i h d (e.reverse.map CW.toI) j xs G2 v' f/\Chg a w (i.ownBlock.toList++h)/\v= nS (nM ⟨g,0,nN⟩) n c/\AK w v 23 (vs++[j])/\(i.ownBlock=nM g\/a.heap.size<=g)/\g∉W::f/\¬G2 g
 |_=>∃d e v' m f p l,k= .yes d e/\PO w0 w W d (o++[e.reverse.map CW.toI]) v' m f p l/\Chg a w (i.ownBlock.toList++h)/\(∀b,b∈Dj W m f->b∈i.ownBlock.toList++h\/a.heap.size<=b)/\∀b,l b->G b\/a.heap.size<=b
theorem PD.chg{d:Wl}{b:List Nat}{e:List (List Bq)}{f:PV}(h:PD w0 d W c b e vs G f n v w):Chg d w (c.ownBlock.toList++b):=by
 match n,h with
 |0,h=>exact Chg.none h _
 |1,⟨_,_,_,_,_,_,_,_,h⟩=>exact h.mono fun k _ a=>Qd _ a
 |2,⟨_,_,_,_,_,_,_,_,_,_,h,_⟩=>exact h.mono fun k _ a=>Qd _ a
 |3,⟨_,_,_,_,_,_,_,_,_,_,_,_,h,_⟩=>exact h
 |_+4,⟨_,_,_,_,_,_,_,_,_,h,_⟩=>exact h
theorem PD.undo{b:Wl}{a g:Vl}{e:List Nat}{c:List (List Bq)}{f:PV}(h:PD w0 b W a e c vs G f n v w)(i:n<=2)(d:Hu b W t g a bs):w.cell? ⟨W,3,nN⟩=nM a:=by
 match n,h with
 |0,h=>exact(d.blk.kept h).cell 3
 |1,⟨_,_,_,_,_,_,_,h,_⟩=>exact h.wat.blk.cell 3
 |2,⟨_,_,_,_,_,_,_,_,_,h,_⟩=>exact h.wat.blk.cell 3
 |_+3,_=>omega
theorem U0:(prog.info? 23).map (fun i=>(i.zero,i.size,i.bytes))=nM (nM (nS nN 0 0),1,24):=Yb
def Tp(W a D m:Nat)(d:Vl)(c:Nat)(b:Vl)(j:Nat)(v:Vl):Prop:=match j with
 |0=>v= nP (nM ⟨W,0,nN⟩)
 |1=>v= nP (nM ⟨W,0,nN⟩)
 |2=>v= nP (nM ⟨W,0,nN⟩)
 |3=>v= nP (nM ⟨W,3,nN⟩)
 |4=>v=d
 |5=>v= nS (nM ⟨D,0,nN⟩) 6 6
 |6=>v= nP (nM ⟨a,0,nN⟩)
 |7=>v= nI nX ((m:Int)+1)
 |8=>v= nI nX m
 |9=>v= nP (nM ⟨D,m,nN⟩)
 |10=>v= .func (.func c) #[nP (nM ⟨W,0,nN⟩)] #[]
 |11=>v=b
 |15=>v= nP (nM ⟨W,0,nN⟩)
 |16=>v= nP (nM ⟨W,3,nN⟩)
 |_=>True
theorem Tx(w0:Wl)(W:Nat)(t:Tr)(g:List (List Bq))(v a:Vl)(bs:List Nat)(vs:List Vl)(G:Nat->Prop)(o:Bq)(sv:Vl)(ys:List Vl)(d f b D:Nat)(w:Wl)(l:Br w)(z:10<=w0.heap.size)(K:w0.heap.size<=w.heap.size)(h:PO w0 w W t g v a bs vs G)(m:T7 o)(p:As w sv 6 o.steps.length ys)(q:Az w o.steps ys)(r:Ac w d (BJ o sv) 44)(A:Ac w f [nP (nM ⟨W,0,nN⟩)] 61)(B:Ac w b [nS (nM ⟨D,0,nN⟩) 6 6] 117)(C:Ac w D (HJ W) 119)(E:d∉Dj W a bs)(F:f∉Dj W a bs)(H:b∉Dj W a bs)(I:D∉Dj W a bs)(J:vs.length<=65536)(i:Bn o≠0):
  Cl prog 44 #[nP (nM ⟨d,0,nN⟩),nP (nM ⟨f,0,nN⟩),nP (nM ⟨b,0,nN⟩)] w (CK w0 W t g a bs G o w):=by
 have c:=hZ (Xu o sv ys w l m p q);rw[Co.no rfl i]at c
 have j:=UD (CK w0 W t g a bs G o w=fun e w'=>e=By (Bn o)/\Chg w w' (Dj W a bs)) (by
  funext e w';unfold CK Gz;rw[Qr i];rfl)
 have y:=hZ r;rw[j.o];obtain⟨n,u⟩:=Ue (Bn o);rw[<-u]at c|-;clear l z K h m p q r A B C E F H I J i u j;go_enter func44,ntmps44
 go_wp2_with(first
  |(refine uN y.o ?_)
  |(go_at_call 29;refine c.o.mono ?_;rintro e L ⟨s,k⟩;unfold By at s;subst s;have x:=hZ k;clear k))
 exact⟨rfl,rfl,x.o.none _⟩
theorem z0o(h:p:=by go_simp;exact u _ _ Zh (l.read Zh ZM (by simp[Tp]))):p:=h
theorem z0s(h:p:=by have s:rS a 1= nP (nM ⟨WB,0,nN⟩):=E.at 1 Yb;have M:=B2.o.kept ai aJ.o;have I:=M.cell 0;simp only[Qa,Qb]at I;exact z0o):p:=h
theorem z0u(h:p:=by
 rcases Qh.1 j with j|j
 .omega
 .have:=aG _ j;omega):p:=h
theorem z0v(h:p:=by simp[Region.wanted]):p:=h
theorem Rz(w0:Wl)(W:Nat)(t:Tr)(gs:List (List Bq))(v q:Vl)(bs:List Nat)(vs:List Vl)(G:Nat->Prop)(o:Bq)(sv:Vl)(ys:List Vl)(OB WB DB D:Nat)(w:Wl)(hL:Br w)(av:10<=w0.heap.size)(hz:w0.heap.size<=w.heap.size)(h:PO w0 w W t gs v q bs vs G)(hO:T7 o)(hR:As w sv 6 o.steps.length ys)(hS:Az w o.steps ys)(aZ:Ac w OB (BJ o sv) 44)(a0:Ac w WB [nP (nM ⟨W,0,nN⟩)] 61)(a1:Ac w DB [nS (nM ⟨D,0,nN⟩) 6 6] 117)(a2:Ac w D (HJ W) 119)(a7:OB∉Dj W q bs)(a8:WB∉Dj W q bs)(a9:DB∉Dj W q bs)(ba:D∉Dj W q bs)(bf:vs.length<=65536)(am:Bn o=0):
  Cl prog 44 #[nP (nM ⟨OB,0,nN⟩),nP (nM ⟨WB,0,nN⟩),nP (nM ⟨DB,0,nN⟩)] w (CK w0 W t gs q bs G o w):=by
 have aS:=hZ (Xu o sv ys w hL hO hR hS);have N:CP o.kind=true:=Iu.2 (by have:=(EK am).1;omega);obtain⟨m,j⟩:∃m:Nat,o.kind=(m:Int)+1:=⟨(o.kind-1).toNat,by have:=(EK am).1;omega⟩;have ca:m<6:=by have:=(EK am).1;omega
 have a6:(o.kind-1).toNat=m:=Zj;have ay:=hZ am;have HL:=hZ hL;have ar:=hZ aZ;have R:=hZ h;have bt:=hZ j;obtain⟨ag,ah,rfl,_⟩:=hR.form;have aO:=hZ N;have aP:=hZ a6;have aU:=hZ bf;have aL:=hZ av;have HZ:=hZ hz;have aa:=hZ (And.intro a0 (And.intro a1 a2));have al:=hZ (And.intro a7 (And.intro a8 (And.intro a9 ba)));clear hL av hz h hO hR hS aZ a0 a1 a2 a7 a8 a9 ba bf am j N a6;go_enter func44,ntmps44
 go_wp2_with(first
  |(refine uN ar.o ?_)
  |(go_at_call 29;refine aS.o.mono ?_;intro e O aH;unfold Co at aH;rw[ay.o,Qs Zh]at aH;obtain⟨path,frm,x,bc,r7⟩:=aH;obtain⟨slp,af,vx,B,F,F2,rfl,r1,r2,r3,r4,r5,bj,r6⟩:=bc.below;clear bc;obtain⟨pa,pc,bd,_⟩:=r1.tpath.row.cell;have R1:=hZ r1;have V:=hZ r2;have R3:=hZ r3;have R4:=hZ r4;have R5:=hZ r5;have R6:=hZ bj;have H1:=hZ r6.1;have bw:=hZ (aB (k:=o.kind) (p:=o.path) (f:=o.frm) (sv:= nS ag o.steps.length ah) (slp:=slp) rfl (by rw[bd];rfl) r6.2.1 r6.2.2);have R7:=hZ r7;have aQ:=hZ (Ac.new O [nI nX 0,nG ⟨#[]⟩,nG ⟨#[]⟩,nS nN 0 0,nS nN 0 0,nS nN 0 0,.nilIface] 78);clear r1 r2 r3 r4 r5 bj r6 r7 bd)
  |(refine Ae rfl _ _ _ rfl O.heap.size [nI nX o.kind,nG o.path,nG o.frm,nS ag o.steps.length ah,slp,af,vx] ZN ZN 78 _ aQ.o Ce rfl bw.o ?_;intro w2 bW aA aF;have aM:=hZ aA;have H2:=UD (Chg w w2 []) (Chg.step (b:=_) (by exact cg H1.o) aF (fun i hi hl=>by have:=H1.o.size;simp at hi;omega));have aK:=UD (Chg O w2 []) (Chg.step (b:=_) (by exact cg (cR)) aF (fun i hi hl=>by simp at hi;omega));have aV:=UD (O.heap.size<w2.heap.size) aA.lt;clear bW aA aF))
 go_outline
 obtain⟨A,aj⟩:=Ue (World.drew w2);have bz:=hZ aj;have U:Hid (Chg w A []):=by rw[aj];exact hZ H2.o.drew
 have bo:Hid (Chg O A []):=by rw[aj];exact hZ aK.o.drew
 have B5:Hid (Ac A O.heap.size [nI nX o.kind,nG o.path,nG o.frm,nS ag o.steps.length ah,slp,af,vx] 78):=by rw[aj];exact hZ aM.o.drew
 have bV:O.heap.size<A.heap.size:=by rw[aj];exact aV.o
 clear aj;have bg:=U.o.size;have ae:=R.o.ltAll;have ab:W∈Dj W q bs:=Qd _ Zh;have ad:∀b,b∈bs->b∈Dj W q bs:=fun b d=>Qd _ (Qg _ d)
 have ao:∀b,b<w.heap.size->b∉Dj W q bs->b∉q.ownBlock.toList++W::(B++bs):=fun b hl hn j=>by
  rcases Qf.1 j with j|j
  .exact hn (Qe _ j)
  .rcases Qh.1 j with rfl|j
   .exact hn ab
   .rcases Qf.1 j with j|j
    .have:=V.o.ge b j;omega
    .exact hn (ad b j)
 have B1:=hZ (ar.o.kept U.o);have B2:=hZ (aa.o.1.kept U.o);have B3:=hZ (aa.o.2.1.kept U.o);have B4:=hZ (aa.o.2.2.kept U.o);have bk:=hZ (ao OB ar.o.lt al.o.1);have aJ:=hZ (ao WB aa.o.1.lt al.o.2.1);have bl:=hZ (ao DB aa.o.2.1.lt al.o.2.2.1);have bm:=hZ (ao D aa.o.2.2.lt al.o.2.2.2)
 have bn:=UD (O.heap.size∉q.ownBlock.toList++W::(B++bs)) fun j=>by
  have cd:=H1.o.size;rcases Qf.1 j with j|j
  .have:=ae _ (Qe _ j);omega
  .rcases Qh.1 j with j|j
   .have:=ae _ ab;omega
   .rcases Qf.1 j with j|j
    .have:=R6.o _ j;omega
    .have:=ae _ (ad _ j);omega
 have ak:=hZ (R.o.kept U.o)
 have az:=UD (∀b,b∈B->w0.heap.size<=b/\¬G b/\q.ownBlock≠nM b) fun b d=>by
  have s:=V.o.ge b d;have h2:=HZ.o;refine⟨Zj,fun hG=>by have:=(R.o.gnew b hG).2;omega,fun e=>by have:=R.o.row.lt e;omega⟩
 have aT:=UD (∀g,q.ownBlock=nM g->g∉W::(B++bs)) fun g hg j=>by
  rcases Qh.1 j with rfl|j
  .exact(R.o.uown g hg).2.1 Zh
  .rcases Qf.1 j with j|j
   .exact(az.o g j).2.2 hg
   .exact(R.o.uown g hg).2.1 (Qg _ j)
 have bA:=UD (w0.heap.size<=A.heap.size) (by have:=HZ.o;omega)
 have bb:(W::(B++bs)).Nodup:=by
  have hn:=R.o.nodup;simp only[List.nodup_cons,List.nodup_append,Qf,not_or]at hn|-;refine⟨⟨fun j=>by have:=V.o.ge _ j;have:=ae _ ab;omega,hn.1⟩,V.o.nodup,hn.2,fun x hx y hy e=> ?_⟩;subst e;have:=V.o.ge _ hx;have:=ae _ (ad _ hy);omega
 have a5:∀b,b∈W::(B++bs)->10<=b:=fun b d=>by
  have s:=aL.o;rcases Qh.1 d with rfl|d
  .have:=R.o.ge _ (List.mem_cons_self ..);omega
  .rcases Qf.1 d with d|d
   .have:=(az.o b d).1;omega
   .have:=R.o.ge _ (Qg _ d);omega
 have aC:∀b,b∈W::(B++bs)->¬F b/\¬F2 b:=fun b d=>by
  have bi:b∈Dj W q bs->¬F b/\¬F2 b:=fun j=>by
   have hl:=ae b j;exact⟨fun E=>by have:=R3.o b E;omega,fun E=>by have:=R4.o b E;omega⟩
  rcases Qh.1 d with rfl|d
  .exact bi ab
  .rcases Qf.1 d with d|d
   .exact R5.o b d
   .exact bi (ad b d)
 have be:Da t o path frm x=Gz t o:=VL ay.o R1.o.pathP R1.o.frmP R7.o
 have aE:∀P,Chg A P []->∃n:Nat,(HJ W)[(o.kind-1).toNat]? =nM (.func (.func n) #[nP (nM ⟨W,0,nN⟩)] #[])/\
   Cl prog n #[nP (nM ⟨W,0,nN⟩),nA #[nI nX o.kind,nG o.path,nG o.frm,nS ag o.steps.length ah,slp,af,vx]] P (BC W q (W::(B++bs)) (Gz t o) P):=fun P hx=>by
  rw[<-be];have bJ:=bo.o.trans hx;have bF:=U.o.trans hx;exact aD W t v q bs o path frm x _ slp af vx B F F2 P (HL.o.kept bF) (ak.o.wat.kept hx) (R1.o.kept bJ) bb a5 (fun b d=>(aC b d).1) (fun b d=>(aC b d).2) aO.o
 obtain⟨n0,an,_⟩:=aE A cR;obtain⟨aq,Z⟩:=Ue (Gz t o)
 have bq:=UD (∀P,Chg A P []->Cl prog n0 #[nP (nM ⟨W,0,nN⟩),nA #[nI nX o.kind,nG o.path,nG o.frm,nS ag o.steps.length ah,slp,af,vx]] P (BC W q (W::(B++bs)) aq P)) fun P hx=>by
  obtain⟨n,s,h2⟩:=aE P hx;rw[an]at s;injection s with s
  injection s with s _ _
  injection s with s
  subst s;rw[Z];exact h2
 rw[aP.o]at an;have bu:=hZ an;have bp:=hZ (UR an);have aR:=UD (CK w0 W t gs q bs G o w=Y6 w0 W gs q bs G aq w) (by unfold CK;rw[<-Z])
 have aN:=UD (∀w',Chg A w' (q.ownBlock.toList++W::(B++bs))->Chg w w' (Dj W q bs)) fun w' h=>(U.o.none _).step h (fun i hi hl=>by
  rcases Qf.1 hi with hi|hi
  .exact Qe _ hi
  .rcases Qh.1 hi with rfl|hi
   .exact ab
   .rcases Qf.1 hi with hi|hi
    .have:=V.o.ge i hi;omega
    .exact ad i hi)
 have bB:=UD (w.heap.size<=A.heap.size) bg
 have bv:=UD (∀b,(b∈q.ownBlock.toList++W::(B++bs)\/A.heap.size<=b)->b∈Dj W q bs\/w.heap.size<=b) fun b d=>by
  rcases d with d|d
  .rcases Qf.1 d with d|d
   .exact .inl (Qe _ d)
   .rcases Qh.1 d with rfl|d
    .exact .inl ab
    .rcases Qf.1 d with d|d
     .exact .inr (V.o.ge b d)
     .exact .inl (ad b d)
  .exact .inr Zj
 have bx:=UD (PD w0 A W q (W::(B++bs)) gs vs G aq 0 undef A) cR;clear Z aE be aC a5 bb ao ae ab ad an bg bV;clear aS aP aO aa al aM ar aQ R1 V R3 R4 R5 R6 R7 H1 H2 aK aV HL ay aL;refine wp_region_any Yb ?_;change wpAny _ _ _ _ _ _ _ (World.drew _);rw[<-bz.o];refine Dg _ (DC [12,13,14,17] (Tp W OB D m q n0 (nA #[nI nX o.kind,nG o.path,nG o.frm,nS ag o.steps.length ah,slp,af,vx])) (PD w0 A W q (W::(B++bs)) gs vs G aq)) Yb ?_ ?_ _ ?_
 .intro ii op a L dd ho E T z bO l K u
  have ai:Chg A L (q.ownBlock.toList++W::(B++bs)):=by
   obtain⟨_,_,_,hp⟩:=l.any;exact hp.chg
  match ii,ho with
  |0,rfl=>
   exact z0s
  |1,rfl=>
   exact z0s
  |2,rfl=>
   have h7:rS a 7= nP (nM ⟨W,0,nN⟩):=l.vals 1 ZM (z ⟨1,.data⟩ Zh rfl);exact z0o
  |3,rfl=>
   have h8:rS a 8= nP (nM ⟨W,0,nN⟩):=l.vals 2 ZM (z ⟨2,.data⟩ Zh rfl);exact z0o
  |4,rfl=>
   have h9:rS a 9= nP (nM ⟨W,3,nN⟩):=l.vals 3 ZM (z ⟨3,.data⟩ Zh rfl)
   have au:dd 14=false:=by
    cases e:dd 14 with
    |false=>rfl
    |true=>have:=bO 14 _ rfl e ⟨4,.data⟩ Zh rfl;rw[T]at this;cases this
   obtain⟨m',v',bR,bS⟩:=l.low (n:=2) rfl au;have I:=bS.undo bR ak.o.wat;exact z0o
  |5,rfl=>
   have h2:rS a 2= nP (nM ⟨DB,0,nN⟩):=E.at 2 Yb;have M:=B3.o.kept ai bl.o;have I:=M.cell 0;simp only[Qa,Qb]at I;exact z0o
  |6,rfl=>
   have h0:rS a 0= nP (nM ⟨OB,0,nN⟩):=E.at 0 Yb;exact z0o
  |7,rfl=>
   have b0:rS a 12= nP (nM ⟨OB,0,nN⟩):=l.vals 6 ZM (z ⟨6,.data⟩ Zh rfl);have M:=B1.o.kept ai bk.o;have I:=M.cell 0;unfold BJ at I;simp only[Qa]at I;rw[bt.o]at I;exact z0o
  |8,rfl=>
   have b1:rS a 13= nI nX ((m:Int)+1):=l.vals 7 ZM (z ⟨7,.data⟩ Zh rfl);have cc:IntKind.i64.wrap ((m:Int)+1-1)=(m:Int):=by rw[show(m:Int)+1-1=m from by omega];exact IntWalk.i64_in _ Zj
   have bT:IntKind.i64.wrap (m:Int)=(m:Int):=IntWalk.i64_in _ Zj;go_simp;exact u _ _ Zh (l.read Zh ZM (by simp[Tp,bT]))
  |9,rfl=>
   have bZ:rS a 11= nS (nM ⟨D,0,nN⟩) 6 6:=l.vals 5 ZM (z ⟨5,.data⟩ Zh rfl);have b2:rS a 14= nI nX m:=l.vals 8 ZM (z ⟨8,.data⟩ Zh rfl);have cb:(m:Int)<6:=Zj;have b9:(0:Int)<=(m:Int):=Zj;exact z0o
  |10,rfl=>
   have b3:rS a 15= nP (nM ⟨D,m,nN⟩):=l.vals 9 ZM (z ⟨9,.data⟩ Zh rfl);have M:=B4.o.kept ai bm.o;have I:=M.cell m;rw[bu.o]at I;exact z0o
  |11,rfl=>
   have h3:a.tmps.getD 3 undef= nP (nM ⟨O.heap.size,0,nN⟩):=E.at 3 Yb;have M:=B5.o.kept ai bn.o;rw[Qr z0v];refine Bd _ _ rfl O.heap.size h3 78 _ M _ underlying78 rfl Ce ?_;exact u _ _ Zh (l.read Zh ZM (by simp[Tp]))
  |12,rfl=>
   have bC:=z ⟨10,.data⟩ Zh rfl;have bD:=z ⟨11,.data⟩ Zh rfl;have av:a.tmps.getD 16 undef= .func (.func n0) #[nP (nM ⟨W,0,nN⟩)] #[]:=l.vals 10 ZM bC;have bH:a.tmps.getD 17 undef=(nA #[nI nX o.kind,nG o.path,nG o.frm,nS ag o.steps.length ah,slp,af,vx]):=l.vals 11 ZM bD;have aw:Chg A L []:=l.at (n:=0) rfl T (.inl rfl);rw[Qr z0v];refine Ru _ _ _ rfl n0 _ _ av bH (bp.o _ _) _ (bq.o L aw) ?_;intro e O ax;rcases Z:aq with k|⟨t',C⟩
   .rw[Z]at ax;obtain⟨he,bL⟩:=ax;unfold By at he;subst he;refine .inr ⟨_,rfl, ?_⟩;rw[aR.o,Z];exact⟨E.defers,rfl,aN.o _ (((aw.none _).trans bL).mono fun k _ N=>Qd _ N)⟩
   .rw[Z]at ax;obtain⟨v',Q,sl,xs,G2,he,q1,q2,q3,q4,q5⟩:=ax;subst he;have bU:=aw.size;refine .inl ⟨_,rfl,u _ _ Zh (l.next (n:=0) rfl T (.inl rfl) ZM ?_)⟩;exact⟨t',C,xs,G2,v',Q,Z,⟨⟨q1.row,q1.inn,q1.ops,q1.own,fun b d=>by have:=q1.new b d;omega⟩,q2,q3.back bU,q5⟩,(aw.none _).trans q4⟩
  |13,rfl=>
   have aW:=z ⟨12,.data⟩ Zh rfl;obtain⟨t',C,xs,G2,v',Q,X,r,H⟩:=l.at (n:=1) rfl T (.inr ⟨12,rfl,aW⟩);change Y3 _ _ _ _ _ _ _ (a.tmps.getD 18 undef) _ _ _ _ at r;obtain⟨sa,sc,ap,_⟩:=r.ops.row.form;rw[show(C.reverse.map CW.toI).length=C.length from by simp]at ap;rw[ap]at r;have bI:a.tmps.getD 18 undef= nS sa C.length sc:=ap;have b4:a.tmps[18]?.getD undef= nS sa C.length sc:=by rw[<-Qp];exact bI
   have bh:=H.size;have bP:=r.wat.blk.lt;have aG:=AP.lt _ _ _ r.wat.at_;go_simp;refine u _ _ Zh (l.next (n:=1) rfl T (.inr ⟨12,rfl,aW⟩) ZM ?_);have bN:Chg L (L.alloc (nC #[nS sa C.length sc] 23)) []:=(Chg.refl L []).alloc _;refine⟨t',C,xs,G2,v',Q,_,L.heap.size,X,r.kept bN,H.alloc _,rfl,Ac.new L [nS sa C.length sc] _,bh,fun j=> ?_⟩;exact z0u
  |14,rfl=>
   have aX:=z ⟨13,.data⟩ Zh rfl;have d4:=z ⟨4,.data⟩ Zh rfl;obtain⟨t',C,xs,G2,v',Q,sl,g,X,r,H,S,Y,g6,g7⟩:=l.at (n:=2) rfl T (.inr ⟨13,rfl,aX⟩);change a.tmps.getD 19 undef=_ at S;have bG:a.tmps.getD 10 undef=q:=l.vals 4 ZM d4;have a3:=Y.cell 0;simp only[Qa]at a3;have bK:AK L q 23 vs:=ak.o.row.kept H aT.o;obtain⟨sa,sc,ap,_⟩:=r.ops.row.form;refine Df rfl _ _ _ rfl 23 _ 24 underlying67 U0 rfl q vs bG bK g sl S a3 (by rw[ap];rfl) (by have:=aU.o;omega) (by have:=aU.o;omega) ?_;intro g' cap w' k1 k2 J;refine u _ _ Zh (l.next (n:=2) rfl T (.inr ⟨13,rfl,aX⟩) ZM ?_);have bh:=H.size;have bP:=r.wat.blk.lt;have aG:=AP.lt _ _ _ r.wat.at_
   have aI:∀b,b∈q.ownBlock.toList->b<A.heap.size/\b∉W::Q/\¬G2 b:=fun b d=>by
    have aY:q.ownBlock=nM b:=by simpa using d
    have bQ:=ak.o.row.lt aY;refine⟨bQ,fun j=> ?_,fun hG=>by have:=(r.ops.new b hG).1;omega⟩;rcases r.own.come b j with s|s
    .exact aT.o b aY s
    .omega
   refine⟨t',C,xs,G2,v',Q,sl,g',_,cap,X,r.kept k2 (fun b d=>(aI b d).2),((H.mono fun k _ N=>Qd _ N).trans (k2.mono fun k _ N=>Qe _ N)),rfl,k1, ?_, ?_, ?_⟩
   .rcases J with J|J
    .exact .inl J
    .exact .inr Zj
   .rcases J with J|J
    .exact(aI g' (by simp[J])).2.1
    .intro j;exact z0u
   .rcases J with J|J
    .exact(aI g' (by simp[J])).2.2
    .intro j;have:=(r.ops.new _ j).2;omega
  |15,rfl=>
   have h6:rS a 6= nP (nM ⟨W,0,nN⟩):=l.vals 0 ZM (z ⟨0,.data⟩ Zh rfl);exact z0o
  |16,rfl=>
   have b6:rS a 21= nP (nM ⟨W,0,nN⟩):=l.vals 15 ZM (z ⟨15,.data⟩ Zh rfl);exact z0o
  |17,rfl=>
   have au:=z ⟨14,.data⟩ Zh rfl;have bE:=z ⟨16,.data⟩ Zh rfl;obtain⟨t',C,xs,G2,v',Q,sl,g,n,c,X,r,H,S,Y,g6,g7,g8⟩:=l.at (n:=3) rfl T (.inr ⟨14,rfl,au⟩);change a.tmps.getD 20 undef=_ at S;change AK _ (a.tmps.getD 20 undef) _ _ at Y;rw[S]at Y;have b5:a.tmps[20]?.getD undef= nS (nM ⟨g,0,nN⟩) n c:=by rw[<-Qp];exact S
   have b7:rS a 22= nP (nM ⟨W,3,nN⟩):=l.vals 16 ZM bE;have bM:=r.wat.blk.cell 3;simp only[Qa,Qb]at bM;have b8:=r.wat.blk.frozen 3;go_simp;refine u undef _ (fun _=>rfl) (l.next (n:=3) rfl T (.inr ⟨14,rfl,au⟩) ZM ?_);have hs:Chg L (L.setCell ⟨W,3,nN⟩ (nS (nM ⟨g,0,nN⟩) n c)) [W]:=(Chg.refl L _).setCell _ _ Zh;refine⟨t',C,v',_,Q,_,_,X,PO.next ak.o az.o r (fun b d _=>d) H Y g6 g7 g8 bA.o hs (r.wat.blk.set 3 (nS (nM ⟨g,0,nN⟩) n c)),H.trans (hs.mono fun k _ N=>by simp at N;subst N;simp),fun b d=> ?_,fun b d=>d.imp id fun h=>(r.ops.new b h).1⟩;rcases Qf.1 d with d|d
   .simp[Vl.ownBlock]at d;subst d;rcases g6 with h6|h6
    .exact .inl (Qe _ (by simp[h6]))
    .exact .inr h6
   .rcases r.own.come b d with s|s
    .exact .inl (Qd _ s)
    .exact .inr s
  |_+18,ho=>exact absurd ho Zh
 .intro a wR dd E hd l;obtain⟨t',C,v',bX,Q,bY,G',X,r,H,S,Y⟩:=l.fin (n:=3) rfl rfl (hd 17 ZM);have br:=UD (CK w0 W t gs q bs G o w (nR (nT #[])) wR) (by rw[aR.o,X];exact⟨rfl,aN.o _ H,v',bX,Q,bY,G',r,fun b d=>bv.o b (S b d),fun b d=>(Y b d).imp id fun h=>Q7 bB.o h⟩);clear l hd X r H S Y;obtain⟨fu,hu,a4⟩:=E.fin [6,7,8,9,10,11,12,13,14,15,16,17,18,19,20,21,22] Yb;clear E hu;simp only[List.foldl_cons,List.foldl_nil,Act.put,List.setIfInBounds_toArray,List.set_cons_zero,List.set_cons_succ]at a4;subst a4;go_wp2_with fail;go_end0
  exact br.o
 .exact DC.start bx.o
theorem Cc.item{l:List Bq}{xs:List Vl}{b o c:Nat}(k:As w (nS (nM ⟨b,o,nN⟩) n c) 4 l.length xs)(q:0<l.length)(m:Cc w l xs){i:Nat}{s:Bq}(r:l[i]? =nM s):
  ∃sv ys,As w sv 6 s.steps.length ys/\Az w s.steps ys/\∀j v,(BJ s sv)[j]? =nM v->w.cell? ⟨b,o+i*4+j,nN⟩=nM v:=by
 obtain⟨sv,ys,f,g,h⟩:=m.get i s r;obtain⟨u,x,e,p⟩:=k.base q ZM;injection e with e
 injection e with a d
 subst a;subst d;exact⟨sv,ys,f,g,fun j v t=>by rw[Nat.add_assoc];exact p _ v (h j v t)⟩
theorem YH(w0:Wl)(W:Nat)(t:Tr)(e:List (List Bq))(v a:Vl)(bs:List Nat)(vs:List Vl)(G:Nat->Prop)(o:Bq)(sv:Vl)(ys:List Vl)(c d b D:Nat)(w:Wl)(g:Br w)(f:10<=w0.heap.size)(z:w0.heap.size<=w.heap.size)(h:PO w0 w W t e v a bs vs G)(i:T7 o)(j:As w sv 6 o.steps.length ys)(k:Az w o.steps ys)(m:Ac w c (BJ o sv) 44)(n:Ac w d [nP (nM ⟨W,0,nN⟩)] 61)(p:Ac w b [nS (nM ⟨D,0,nN⟩) 6 6] 117)(q:Ac w D (HJ W) 119)(r:c∉Dj W a bs)(s:d∉Dj W a bs)(u:b∉Dj W a bs)(x:D∉Dj W a bs)(y:vs.length<=65536):
  Cl prog 44 #[nP (nM ⟨c,0,nN⟩),nP (nM ⟨d,0,nN⟩),nP (nM ⟨b,0,nN⟩)] w (CK w0 W t e a bs G o w):=by
 by_cases l:Bn o=0
 .exact Rz w0 W t e v a bs vs G o sv ys c d b D w g f z h i j k m n p q r s u x y l
 .exact Tx w0 W t e v a bs vs G o sv ys c d b D w g f z h i j k m n p q r s u x y l
structure Ha(w4:Wl)(W:Nat)(v:Vl)(n b:Int)(V:Nat->Vl->Prop)(d:Nat->Bool)(f:Nat->Vl)(w:Wl):Prop where
 chg:Chg w4 w [W]
 blk:Ac w W [v,nI nX (if d 13 then n else 0),nI nX (if d 16 then b else 0),nS nN 0 0] 69
 vals:∀j,d j=true->V j (f j)
theorem Ha.put{n:Int}{y:Vl}(h:Ha g W v n b V d f w)(i:j≠13)(l:j≠16)(m:V j y)(a:Chg w w' []):Ha g W v n b V (BA d j) (Eb f j y) w':=
 ⟨h.chg.trans (a.none _),by rw[An d (Ne.symm i),An d (Ne.symm l)];exact h.blk.kept a,fun k c=>by
  by_cases e:k=j
  .subst e;rw[Bf];exact m
  .rw[AA f y e];rw[An d e]at c;exact h.vals k c⟩
theorem Ha.vals'{n:Int}(h:Ha g W v n b V d f w)(c:V j undef):∀k,BA d j k=true->V k (Eb f j undef k):=fun k a=>by
 by_cases e:k=j
 .subst e;rw[Bf];exact c
 .rw[AA f _ e];rw[An d e]at a;exact h.vals k a
theorem Ha.set1{a:Wl}{n:Int}(h:Ha a W v n b V d f w)(c:V 13 undef):Ha a W v n b V (BA d 13) (Eb f 13 undef) (w.setCell ⟨W,1,nN⟩ (nI nX n)):=
 ⟨h.chg.setCell _ _ Zh,by rw[BG,An d ZM];exact h.blk.set 1 _,h.vals' c⟩
theorem Ha.set2{a:Wl}{n:Int}(h:Ha a W v n b V d f w)(c:V 16 undef):Ha a W v n b V (BA d 16) (Eb f 16 undef) (w.setCell ⟨W,2,nN⟩ (nI nX b)):=
 ⟨h.chg.setCell _ _ Zh,by rw[BG,An d ZM];exact h.blk.set 2 _,h.vals' c⟩
def IS(W:Nat)(v:Vl)(s:Sz)(j:Nat)(y:Vl):Prop:=match j with
 |0=>y= nP (nM ⟨W,0,nN⟩)
 |1=>y= nP (nM ⟨W,0,nN⟩)
 |2=>y= nP (nM ⟨W,0,nN⟩)
 |3=>y= nP (nM ⟨W,0,nN⟩)
 |4=>y= nP (nM ⟨W,0,nN⟩)
 |5=>y=v
 |6=>y=Jv s
 |7=>y=Jv s
 |8=>y= nI nX s.nodes
 |9=>y= nI nX s.bytes
 |10=>y= nI nX s.depth
 |11=>y= nP (nM ⟨W,0,nN⟩)
 |12=>y= nP (nM ⟨W,1,nN⟩)
 |14=>y= nP (nM ⟨W,0,nN⟩)
 |15=>y= nP (nM ⟨W,2,nN⟩)
 |_=>True
def Fb(t:Tr)(b:List Bq)(w:Wl)(e:Ending)(w':Wl):Prop:=(match BR t [] 0 b with
 | .no k i=>e= nR (nT #[nP nN,nF 84 (nA #[nI nX k,nI nX i])])
 | .yes c u=>∃W a v d bs vs G,e= nR (nT #[nP (nM ⟨W,0,nN⟩),.nilIface])/\PO w w' W c a v d bs vs G/\a.flatten.reverse=u.map CW.toI)/\Chg w w' []
structure V9(w:Wl)(t:Tr)(ops:List Bq)(W WB DB D k:Nat)(t':Tr)(u':List CW)(gs:List (List Bq))(v uv:Vl)(bs:List Nat)(vs:List Vl)(G:Nat->Prop)(wr:Wl):Prop where
 run:BR t [] 0 (ops.take k)= .yes t' u'
 st:PO w wr W t' gs v uv bs vs G
 flat:gs.flatten.reverse=u'.map CW.toI
 len:gs.length=k
 chg:Chg w wr []
 b2:Ac wr WB [nP (nM ⟨W,0,nN⟩)] 61
 b3:Ac wr DB [nS (nM ⟨D,0,nN⟩) 6 6] 117
 b4:Ac wr D (HJ W) 119
 n2:WB∉Dj W uv bs
 n3:DB∉Dj W uv bs
 n4:D∉Dj W uv bs
theorem PO.geAll{d:List (List Bq)}(h:PO w0 w W t d v c bs vs G):∀b,b∈Dj W c bs->w0.heap.size<=b:=by
 intro b a;rcases Qf.1 a with a|a
 .exact(h.uown b (by simpa using a)).1
 .exact h.ge b a
theorem Uf{u:List CW}{e:Nat}(h:Kj t u= .no e):e≠0:=by
 unfold Kj at h;split at h
 .cases h
 .injection h with h;omega
theorem Yi{ts:List BY}{m:List CW}{e:Nat}(h:Ga t ts x m= .no e):e≠0:=by
 unfold Ga at h;split at h
 .rename_i a;injection h with h;omega
 .exact Uf h
theorem Zq{e:Nat}(h:Gz t o= .no e):e≠0:=by
 unfold Gz at h;split at h
 .rename_i a;injection h with h;omega
 .unfold Da at h;repeat' split at h
  all_goals first
   |exact Yi h
   |exact Uf h
   |(injection h with h;omega)
   |cases h
theorem Wb{a:Int}(h:By a=By b):a=b:=by
 simpa[By,KN]using h
theorem PP{a:Int}(h:Ending.returned v=By a):False:=by unfold By at h;cases h
theorem UL{n:Wl}{b:Tr}{y:List Bq}{q p:Nat}{z:List CW}{d:List (List Bq)}(x:Gz b o= .no m)(hi:V9 w t y W q p D k b z d v c bs vs G wr)(f:Chg wr n [])(h:GB (fun l e g=>CK w W b d c bs G o l e g) (Dj W c bs) n e w'):
  e= nR (nI nX m)/\Chg w w' []:=by
 obtain⟨l,g,B,r,A,C,s,u,h⟩:=h;have E:=hi.chg.size;have F:=f.size;refine⟨?_,(((hi.chg.trans (f.trans r)).fresh u fun i a=>hi.st.geAll i a)).fresh s fun i a=>by simp at a;omega⟩;unfold CK at h;rw[x]at h;rcases h with⟨h,_⟩|⟨j,h,rfl⟩
 .exact(PP h.1).elim
 .rw[Wb h.1]
theorem SR{O:Wl}{r J:Tr}{q:List Bq}{x u:Nat}{K L:List CW}{A:List (List Bq)}{l:Vl}(E:Gz r o= .yes J L)(S:q[k]? =nM o)(hi:V9 w t q W x u D k r K A v l bs vs G wr)(C:Chg wr O [])(h:GB (fun N e M=>CK w W r A l bs G o N e M) (Dj W l bs) O e w'):
  e= nR (nI nX 0)/\∃P v' m g s n,V9 w t q W x u D (k+1) J (L++K) P v' m g s n w':=by
 obtain⟨N,M,B,y,V,Y,p,z,h⟩:=h;have aa:=hi.chg.size;have ab:=C.size;have ad:=y.size;unfold CK at h;rw[E]at h;rcases h with⟨⟨_,Z,v',m,g,s,n,U,H,Q⟩,rfl⟩|⟨j,h,rfl⟩
 .have R:=hi.st.ltAll;have I:=C.trans y
  have f:∀{X:Nat} {cs:List Vl} {T:Ti},Ac wr X cs T->X∉Dj W l bs->Ac w' X cs T/\X∉Dj W m g:=fun{X cs T} a F=>by
   have hl:=a.lt;refine⟨((a.kept I).kept z F).kept p (fun d=>by simp at d;omega),fun d=> ?_⟩;rcases H X d with c|c
   .exact F c
   .omega
  refine⟨rfl,_,v',m,g,s,n,⟨Vu hi.run S E,U.kept p (fun b a=> ?_), ?_,by rw[Qk,hi.len];rfl,((hi.chg.trans I).fresh z fun i a=>hi.st.geAll i a).fresh p fun i a=>by simp at a;omega,(f hi.b2 hi.n2).1,(f hi.b3 hi.n3).1,(f hi.b4 hi.n4).1,(f hi.b2 hi.n2).2,(f hi.b3 hi.n3).2,(f hi.b4 hi.n4).2⟩⟩
  .simp only[Qh,List.not_mem_nil,or_false]at a;subst a;refine⟨fun d=> ?_,fun d=> ?_⟩
   .rcases H b d with c|c
    .have:=R b c;omega
    .omega
   .rcases Q b d with c|c
    .have:=(hi.st.gnew b c).2;omega
    .omega
  .rw[List.flatten_append,List.reverse_append,hi.flat,List.map_append];simp
 .exact(PP h.1.symm).elim
theorem z0n(h:p:=by go_simp;exact l _ _ Zh (c.put ZM ZM (by simp[IS]) cR)):p:=h
theorem z0p(h:p:=by have h6:rS a 6= nP (nM ⟨q,0,nN⟩):=y.at 6 Yb;have ad:=S.o.kept c.chg T.o;have C:=ad.cell 0;simp only[Qa]at C;exact z0n):p:=h
theorem z0q(h:p:=by have Z:a.tmps.getD 23 undef=Jv s:=c.vals 7 (n 7 Zh rfl);unfold Jv at Z;exact z0n):p:=h
theorem z0x(h:p:=by have:=al.o;omega):p:=h
theorem Xs(t:Tr)(F:Nat->Prop)(tb:Nat)(r:List Bq)(so:Vl)(xs:List Vl)(w:Wl)(hL:Br w)(aZ:10<=w.heap.size)(hT:CG w F tb t)(y:∀b,F b->b<w.heap.size)(aD:Bt t)(hR:As w so 4 r.length xs)(hS:Cc w r xs)(hO:∀o∈r,T7 o)(a2:r.length<=65536):
  Cl prog 23 #[nP (nM ⟨tb,0,nN⟩),so] w (Fb t r w):=by
 obtain⟨sa,sc,rfl,af,bb⟩:=hR.form;have HV:=hZ (M9 t F tb w hT y (Ar aD.fits).1);have aj:=hZ aD;have HL:=hZ hL;have a3:=hZ aZ;have HR:=hZ hR;have HS:=hZ hS;have HO:=hZ hO;obtain⟨nl,aG⟩:=Ue r.length;have al:=hZ aG;rw[<-aG]at a2 hR|-;have HM:=hZ a2;clear hL aZ hT y aD hR hS hO af bb aG;go_enter func23,ntmps23
 go_wp2_with(first
  |(go_at_call 33;refine HV.o.mono ?_;rintro e w1 ⟨v0,G0,rfl,hv,Y,a0⟩;have H1:=hZ Y;have aS:=hZ hv;have aN:=hZ a0;obtain⟨bw,bx,rfl⟩:=hv.iface;clear Y hv a0)
  |(go_at_call 42;refine(ab _ t G0 _ w1 (Q8 _) (Ar aj.o.fits).1 aS.o (fun b d=>(aN.o b d).2)).mono ?_;rintro e w2 ⟨v,bs,rfl,p1,p2,p3⟩;have P1:=hZ p1;have P2:=hZ p2;have P3:=hZ p3;obtain⟨I,L,rfl⟩:=p1.iface;clear p1 p2 p3))
 obtain⟨W,hW⟩:=Ue w2.heap.size;obtain⟨q,aA⟩:=Ue (w2.heap.size+1);obtain⟨s,hs⟩:=Ue (Ag t);obtain⟨R,O⟩:=Ue (World.drew ((w2.alloc (nC #[nF I L,nI nX 0,nI nX 0,nS nN 0 0] 69)).alloc (nC #[nP (nM ⟨w2.heap.size,0,nN⟩)] 61)));have aT:=hZ O;have aV:=hZ hW;have aW:=hZ aA;have h2:Chg w w2 []:=H1.o.trans P3.o;have bd:=h2.size;have bc:=H1.o.size;have H4:Hid (Chg w R []):=by rw[O];exact hZ (((h2.alloc _).alloc _).drew)
 have ay:Chg w2 R []:=by rw[O];exact((((Chg.refl w2 []).alloc _).alloc _).drew)
 have ao:∀b,b∈bs->b<W:=fun b d=>by rw[hW];exact AP.lt _ _ _ P1.o b d
 have aM:Hid (Ac R W [nF I L,nI nX 0,nI nX 0,nS nN 0 0] 69):=by rw[O,hW];exact hZ (((Ac.new w2 _ _).alloc _).drew)
 have S:Hid (Ac R q [nP (nM ⟨W,0,nN⟩)] 61):=by rw[O,hW,aA];exact hZ ((BD _ _ _ _ _ rfl Zh).drew)
 have T:=UD (q∉[W]) z0t;have av:=hZ (P1.o.chg ay Zh);have am:=UD (W∉bs) (fun h=>Nat.lt_irrefl _ (ao W h))
 have aR:=UD (∀z,Chg R z [W]->JB (nF I L) s z) fun z Q=>by
  rw[hs];exact MD _ t _ bs z (Q8 _) aj.o.good aj.o.fits (av.o.chg Q (fun b d A=>by simp at d;subst d;exact am.o A))
 have ak:=UD ((W::bs).Nodup/\(∀b,b∈W::bs->w.heap.size<=b)/\q∉W::bs) ⟨List.nodup_cons.2 ⟨am.o,P2.o.nodup⟩,fun b d=>by
  rcases Qh.1 d with rfl|d
  .omega
  .have:=P2.o.ge b d;omega,fun A=>by
  rcases Qh.1 A with A|A
  .omega
  .have:=ao _ A;omega⟩
 have aP:=hZ hs;have aU:=UD (w.heap.size<=W) Zj;clear O h2 ay ao bd bc hs;refine wp_region_any Yb ?_;change wpAny _ _ _ _ _ _ _ (World.drew _);rw[<-aT.o,<-aW.o,<-aV.o];clear hW aA aV aW P1 P2 P3 H1 aS aN aT;refine Dg _ (Ha R W (nF I L) s.nodes s.bytes (IS W (nF I L) s)) Yb ?_ ?_ _ ?_
 .intro ii op a wa dd u y bv ba bt c K l;have n:=fun k=>ba ⟨k,.data⟩;match ii,u with
  |0,rfl=>
   exact z0p
  |1,rfl=>
   exact z0p
  |2,rfl=>
   exact z0p
  |3,rfl=>
   have bi:rS a 26= nP (nM ⟨W,0,nN⟩):=c.vals 2 (n 2 Zh rfl);exact z0n
  |4,rfl=>
   have bj:rS a 27= nP (nM ⟨W,0,nN⟩):=c.vals 3 (n 3 Zh rfl);exact z0n
  |5,rfl=>
   have bk:rS a 28= nP (nM ⟨W,0,nN⟩):=c.vals 4 (n 4 Zh rfl);have C:=c.blk.cell 0;simp only[Qa]at C;exact z0n
  |6,rfl=>
   have a7:a.tmps.getD 29 undef= nF I L:=c.vals 5 (n 5 Zh rfl);obtain⟨ff,a5,m1,m2⟩:=aR.o wa c.chg;rw[Qr z0v];refine I3 _ _ _ rfl _ a7 ff a5 m1 _ m2 ?_;rintro e w1 ⟨rfl,Y⟩;exact⟨_,rfl,l _ _ Zh (c.put ZM ZM (by simp[IS]) Y)⟩
  |7,rfl=>
   have bl:rS a 30=Jv s:=c.vals 6 (n 6 Zh rfl);exact z0n
  |8,rfl=>
   exact z0q
  |9,rfl=>
   exact z0q
  |10,rfl=>
   exact z0q
  |11,rfl=>
   have ay:rS a 24= nP (nM ⟨W,0,nN⟩):=c.vals 0 (n 0 Zh rfl);exact z0n
  |12,rfl=>
   have bo:rS a 34= nP (nM ⟨W,0,nN⟩):=c.vals 11 (n 11 Zh rfl);exact z0n
  |13,rfl=>
   have bp:rS a 35= nP (nM ⟨W,1,nN⟩):=c.vals 12 (n 12 Zh rfl);have bm:rS a 31= nI nX s.nodes:=c.vals 8 (n 8 Zh rfl);have aC:=c.blk.cell 1;simp only[Qa,Qb]at aC;have a9:=c.blk.frozen 1;go_simp;exact l _ _ Zh (c.set1 trivial)
  |14,rfl=>
   have bh:rS a 25= nP (nM ⟨W,0,nN⟩):=c.vals 1 (n 1 Zh rfl);exact z0n
  |15,rfl=>
   have bq:rS a 36= nP (nM ⟨W,0,nN⟩):=c.vals 14 (n 14 Zh rfl);exact z0n
  |16,rfl=>
   have br:rS a 37= nP (nM ⟨W,2,nN⟩):=c.vals 15 (n 15 Zh rfl);have bn:rS a 32= nI nX s.bytes:=c.vals 9 (n 9 Zh rfl);have aC:=c.blk.cell 2;simp only[Qa,Qb]at aC;have a9:=c.blk.frozen 2;go_simp;exact l _ _ Zh (c.set2 trivial)
  |_+17,u=>exact absurd u Zh
 .intro a wR dd y p c;have hB:=c.blk;rw[p 13 ZM,p 16 ZM,Qr rfl,Qr rfl]at hB;have ar:=hZ hB;have au:=hZ (S.o.kept c.chg T.o);have aO:=UD (Chg w wR []) (H4.o.fresh c.chg (fun i hi=>by simp at hi;subst hi;exact aU.o));have aw:=hZ (av.o.chg c.chg (fun b d A=>by simp at d;subst d;exact am.o A));clear c p hB;obtain⟨fu,hu,rfl⟩:=y.fin2 [24,25,26,27,28,29,30,23,31,32,33,34,35,36,37] Yb;clear y hu;obtain⟨l1,f1,d1⟩:=Ac.cells1 au.o;clear H4 aM S av aR;go_wp2_with(go_at_call 43;refine(ZA W _).mono ?_;rintro e w5 ⟨rfl,q1,q2⟩;have Q1:=hZ q1;have Q2:=hZ q2;clear q1 q2);obtain⟨D,hD⟩:=Ue wR.heap.size;obtain⟨U,az⟩:=Ue w5.heap.size;obtain⟨w6,ah⟩:=Ue (w5.alloc (nC #[nS (nM ⟨wR.heap.size,0,nN⟩) 6 6] 117));have aa:Chg wR w6 []:=by rw[ah];exact Q2.o.alloc _
  have be:=Q2.o.size;have aX:Ac w6 D (HJ W) 119:=by rw[ah,hD];exact Q1.o.alloc _
  have aY:Ac w6 U [nS (nM ⟨D,0,nN⟩) 6 6] 117:=by rw[ah,hD,az];exact BD _ _ _ _ _ rfl rfl
  have aE:∀b,b∈W::bs->b<D:=fun b d=>by
   rw[hD];rcases Qh.1 d with rfl|d
   .exact ar.o.lt
   .exact AP.lt _ _ _ aw.o b d
  have an:∀b,b∈Dj W (nS nN 0 0) bs->b∈W::bs:=fun b d=>by simpa[Dj,Vl.ownBlock]using d
  have aQ:=UD (V9 w t r W q U D 0 t [] [] (nF I L) (nS nN 0 0) bs [] (fun _=>False) w6) ⟨by simp[BR],⟨⟨by rw[<-aP.o];exact ar.o.kept aa,aw.o.chg aa Zh,aj.o⟩,ak.o.1,ak.o.2.1,AK.nil _ _,rfl,fun b d=>d.elim,fun b d h=>h,fun g hg=>by cases hg⟩,
   rfl,rfl,aO.o.trans aa,au.o.kept aa,aY,aX,fun h=>ak.o.2.2 (an _ h),fun h=>by have:=aE _ (an _ h);omega,fun h=>by have:=aE _ (an _ h);omega⟩
  rw[<-ah,<-az,<-hD];clear ah az hD aa be aX aY aE an ar au aO aw l1 f1 d1 Q1 Q2 T am ak aP aU;go_loopw [42] (fun aL wr=>∃(k:Nat) (H:Tr) (u':List CW) (X:List (List Bq)) (v J:Vl) (bs:List Nat) (vs:List Vl) (G:Nat->Prop),k<=nl/\aL= nI nX k/\V9 w t r W q U D k H u' X v J bs vs G wr) (fun aL _=>nl-(intOf aL).toNat)
  case atStart=>exact⟨0,_,_,_,_,_,_,_,_,Zj,rfl,aQ.o⟩
  case round=>
   obtain⟨k,H,u',X,v,J,V,vs,G,hk,rfl,a1⟩:=hrel;have f:=hZ a1;clear a1 aQ;by_cases ao:k<nl
   .obtain⟨o,u⟩:∃o,r[k]? =nM o:=⟨_,Q9 z0x⟩;obtain⟨b,ob,rfl,_⟩:=HR.o.base z0x ZM;obtain⟨sv,ys,ap,aI,af⟩:=Cc.item HR.o z0x HS.o u;obtain⟨aJ,aK,rfl,_⟩:=ap.form;have M:∀j x,(BJ o (nS aJ o.steps.length aK))[j]? =nM x->wr.cell? ⟨b,ob+k*4+j,nN⟩=nM x:=fun j x Q=>f.o.chg.keeps (af j x Q);have c0:=M 0 _ rfl;have c1:=M 1 _ rfl;have c2:=M 2 _ rfl;have c3:=M 3 _ rfl;rw[Nat.add_zero]at c0;obtain⟨wy,P⟩:=Ue (wr.alloc (nC #[nI nX o.kind,nG o.path,nG o.frm,nS aJ o.steps.length aK] 44));have N:Chg wr wy []:=by rw[P];exact(Chg.refl wr []).alloc _
    have aB:Ac wy wr.heap.size (BJ o (nS aJ o.steps.length aK)) 44:=by rw[P];exact BD _ _ _ _ _ rfl rfl
    have aF:wr.heap.size∉Dj W J V:=fun h=>Nat.lt_irrefl _ (f.o.st.ltAll _ h);have aH:vs.length<=65536:=by have Y:=f.o.st.grp.length;have h2:=f.o.len;omega
    have hc:=Xp 44 #[nP (nM ⟨wr.heap.size,0,nN⟩),nP (nM ⟨q,0,nN⟩),nP (nM ⟨U,0,nN⟩)] (Dj W J V) wy (fun z e w1=>CK w W H X J V G o z e w1)
     (fun b d=>Q6 (f.o.st.ltAll b d) N.size) (fun _=>Yb)
     (fun z Q=>by
      have ai:=N.trans Q;have aq:=f.o.chg.trans ai
      exact YH w W H X v J V vs G o _ ys _ q U D z (HL.o.kept aq) a3.o aq.size (f.o.st.kept ai) (HO.o o (Qi u)) (ap.kept aq) (Az.kept aq aI) (aB.kept Q) (f.o.b2.kept ai) (f.o.b3.kept ai) (f.o.b4.kept ai) aF f.o.n2 f.o.n3 f.o.n4 aH)
     (fun z e w1 E=>by
      unfold CK at E;cases p:Gz H o with
      |no m=>rw[p]at E;exact⟨E.2,.inr ⟨_,E.1⟩⟩
      |yes t2 un=>rw[p]at E;exact⟨E.2.1,.inl E.1⟩)
    cases p:Gz H o with
    |no m=>
     have B:=hZ (hc.mono fun e w' h=>UL p f.o N h);have ae:BR t [] 0 r= .no m k:=by have:=Us f.o.run u p;rwa[Nat.zero_add]at this
     have ax:=hZ ae;have bu:((m:Int) !=0)=true:=by have:=Zq p;rw[bne_iff_ne];omega
     rw[P]at B;clear p hc ae P N aB aF aH M af ap aI u;obtain⟨sl,ag⟩:=Ue o.steps.length;rw[<-ag]at B c3;clear ag;go_wp2_with((go_at_call 26;refine B.o.mono ?_;rintro e w3 ⟨rfl,h3⟩;have H3:=hZ h3;clear h3));go_ret2;unfold Fb;rw[ax.o];exact⟨rfl,H3.o⟩
    |yes t2 un=>
     have B:=hZ (hc.mono fun e w' h=>SR p u f.o N h);rw[P]at B;clear p hc P N aB aF aH M af ap aI u;obtain⟨sl,ag⟩:=Ue o.steps.length;rw[<-ag]at B c3;clear ag;go_wp2_with((go_at_call 26;refine B.o.mono ?_;rintro e w3 ⟨rfl,h3⟩;have H3:=hZ h3;clear h3));go_roundw
     case rel=>obtain⟨a6,v2,bf,a4,bg,G2,a8⟩:=H3.o;exact⟨k+1,t2,_,a6,v2,bf,a4,bg,G2,Zj,by go_num,a8⟩
     case measure=>simp[intOf];omega
   .obtain rfl:k=nl:=by omega
    have c0:wr.cell? ⟨q,0,nN⟩=nM (nP (nM ⟨W,0,nN⟩)):=f.o.b2.cell 0;have ae:BR t [] 0 r= .yes H u':=by have:=f.o.run;rwa[al.o,Qn (Q8 _)]at this
    have ax:=hZ ae;clear ae;go_wp2_with fail;go_ret2;unfold Fb;rw[ax.o];exact⟨⟨W,X,v,J,V,vs,G,rfl,f.o.st,f.o.flat⟩,f.o.chg⟩
 .exact⟨Chg.refl _ _,aM.o,fun _ e=>by cases e⟩
end
end Go.Proofs.YtamgbmcchhmojaaGreatDoor

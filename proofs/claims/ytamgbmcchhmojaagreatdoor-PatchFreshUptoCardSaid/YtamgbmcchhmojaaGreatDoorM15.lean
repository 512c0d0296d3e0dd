/- Part 15 of the proof of patchFresh_card. -/
import Derived.Test.YtamgbmcchhmojaaGreatDoorM13
set_option maxRecDepth 100000
set_option maxHeartbeats 32000000
set_option linter.all false
namespace Go.Proofs.YtamgbmcchhmojaaGreatDoor
open Go renaming Calls->Cl,Value->Vl,World->Wl
open Go.Value renaming agg->nA,iface->nF,int->nI,pointer->nP,slice->nS,string->nG,tuple->nT
open Go.IntKind renaming i64->nX
open Go.Ending renaming returned->nR
open Go.Obj renaming cells->nC
open Option renaming none->nN,some->nM
section
open _root_.Go.Proofs.Tryz
open Go Go.Shelf Go.RowKit Go.Lib Tree Ptr
variable{F:Nat->Prop}
theorem Zs(a b:Option Addr)(n c m d:Nat)(w:Wl)(h:n≠m):Cl prog 41 #[nS a n c,nS b m d] w fun e w'=>e= nR (.bool false)/\w=w':=by
 have f:((n:Int) !=(m:Int))=true:=by rw[bne_iff_ne];omega
 go_enter func41,ntmps41;go_wp2;go_ret;exact⟨rfl,rfl⟩
theorem Ax.cells{w:Wl}{f:Vl}{xs:List Vl}(h:Ax w F f xs)(l:0<xs.length):∃b o c,f= nS (nM ⟨b,o,nN⟩) xs.length c/\∀i v,xs[i]? =nM v->w.cell? ⟨b,o+i,nN⟩=nM v:=by
 obtain⟨a,c,rfl,d⟩:=h.cell;obtain⟨b,o,rfl,_,_⟩:=d 0 _ (Q9 l);refine⟨b,o,c,rfl,fun i v m=> ?_⟩;obtain⟨n,p,e,_,k⟩:=d i v m;injection e with e
 injection e with g j
 subst g;subst j;exact k
theorem Ix{G:Nat->Prop}(ks f:List BY)(sk s:Vl)(w:Wl)(n:Ax w F sk (Ad ks))(o:Ax w G s (Ad f))(H:ks.length<=4294967296)(E:f.length<=4294967296):
  Cl prog 41 #[sk,s] w fun e w'=>e= nR (.bool (decide (ks=f)))/\∃q,w'=w.drewN q:=by
 obtain⟨a,c,rfl,_⟩:=n.cell;obtain⟨b,d,rfl,_⟩:=o.cell;rw[Ao]at n o|-;rw[Ao];by_cases p:ks.length=f.length
 .by_cases v:ks.length=0
  .have g:ks=[]:=List.eq_nil_of_length_eq_zero v;have i:f=[]:=List.eq_nil_of_length_eq_zero Zj;subst g;subst i;have:=Any.slices_Equal_string_empty b9 a b c 0 d w Zj;exact this.mono fun e w' h=>⟨by rw[h.1];rfl,0,h.2⟩
  .obtain⟨t,z,c1,g,x⟩:=Ax.cells n (by rw[Ao];omega);obtain⟨u,A,B,i,y⟩:=Ax.cells o (by rw[Ao];omega);injection g with g _ C
   injection i with i _ D
   subst g;subst i
   have r:∀(l:List BY) (j:Nat),j<l.length->(Ad l)[j]? =nM (nG (l.getD j ByteArray.empty)):=fun l j k=>by
    simp[Ad,k]
   have m:=Any.slices_Equal_string b9 t z ks.length c u A f.length d ks f w (Q8 _) (Q8 _) Zj Zj (fun j k=>x j _ (r ks j k)) (fun j k=>y j _ (r f j k));rw[Qn (Q8 _),Qn (Q8 _)]at m;change Cl prog 41 _ _ _ at m;exact m
 .refine(Zs a b ks.length c f.length d w p).mono ?_;rintro e w' ⟨rfl,rfl⟩;exact⟨by rw[decide_eq_false (fun h=>p (by rw[h]))],0,rfl⟩
end
section
open _root_.Go.Proofs.Tryz
open Go Go.Shelf Go.RowKit Go.Lib Tree
theorem xX{p:Prop}(h:p:=by exact cg cR):p:=h
theorem WM(s:Ap)(c d:Vl)(w:Wl)(j l:Nat->Prop)(a:Ax w j c (Ad s.keys))(g:Ax w l d (Ad s.keys))(n:∀k,j k->k<w.heap.size)(o:∀k,l k->k<w.heap.size)(i:s.keys.length<=4294967296):
  Cl prog 21 #[nA (AI s c).toArray,nA (AI s d).toArray] w fun e w'=>e= nR (.bool true)/\Chg w w' []:=by
 have f:=UD (∀b,Chg w b []->Cl prog 41 #[c,d] b fun e w'=>e= nR (.bool true)/\Chg b w' []) fun b r=>by
  refine(Ix s.keys s.keys c d b (a.kept (r.keepsF n) (fun _ h=>h)) (g.kept (r.keepsF o) (fun _ h=>h)) i i).mono ?_;rintro e w' ⟨rfl,q,rfl⟩;exact⟨by rw[decide_eq_true rfl],(Chg.refl b []).drewN q⟩
 obtain⟨m,c1,rfl,_⟩:=a.cell;obtain⟨v,x,rfl,_⟩:=g.cell;rw[Ao]at f|-;have u:=UD (Ac ((w.alloc (nC (AI s (nS m s.keys.length c1)).toArray 55)).alloc (nC (AI s (nS v s.keys.length x)).toArray 55)) w.heap.size (AI s (nS m s.keys.length c1)) 55) ((Ac.new w _ _).alloc _);obtain⟨B,p⟩:=Ue s.keys.length;rw[<-p]at f u|-;clear a g i p n o;obtain⟨C,A,y,D,z,ks⟩:=s;unfold AI at*;dsimp only at*;go_enter func21,ntmps21;go_wp2_with((go_at_call 41;refine(f.o _ xX).mono ?_;rintro e E ⟨rfl,a⟩;have t:=hZ a;clear a));go_ret;exact⟨rfl,ct cR t.o⟩
end
section
open _root_.Go.Proofs.Tryz
open Go Go.Shelf Go.RowKit Go.Lib Tree Ptr
variable{l m:List Tr}{p:Prop}
def BU(b:Bool)(w:Wl)(e:Ending)(w':Wl):Prop:=e= nR (.bool b)/\Chg w w' []
theorem Sd(h:l≠m):ER l m=false:=by
 cases a:ER l m with
 |false=>rfl
 |true=>exact absurd ((Gq l m).1 a) h
theorem Vy(h:l=m):ER l m=true:=(Gq l m).2 h
theorem XI{l m:Tr}(h:l≠m):BQ l m=false:=by
 cases a:BQ l m with
 |false=>rfl
 |true=>exact absurd ((KG l m).1 a) h
theorem Vz{l m:Tr}(h:l=m):BQ l m=true:=(KG l m).2 h
theorem RC(l m:List Tr)(vs us:List Vl)(fs gs:List Nat)(a b:Option Addr)(c d:Nat)(w:Wl)(F:AK w (nS a vs.length c) 66 vs)(G:AK w (nS b us.length d) 66 us)(p:PsAt w l vs fs)(q:PsAt w m us gs)(Z:l.length<=65536)(C:∀t s v u E D w',t∈l->s∈m->AP w' t v E->AP w' s u D->Cl prog 106 #[v,u] w' (BU (BQ t s) w')):
  Cl prog 140 #[nS a vs.length c,nS b us.length d,.func (.func 106) #[] #[]] w (BU (ER l m) w):=by
 have M:=p.length;have L:=q.length;by_cases x:l.length=m.length
 .have H:us.length=vs.length:=by omega
  rw[H];have ab:((vs.length:Int) !=(vs.length:Int))=false:=Zh;have ae:vs.length<=65536:=Zj;have W:=hZ M;have V:=hZ L;have P:=hZ x;have O:=hZ H;have R:=hZ F;have S:=hZ G;have HP:=hZ p;have HQ:=hZ q;have HI:=hZ C;clear F G p q C M L x H Z;go_enter func140,ntmps140;go_wp2_with fail;go_loopw [17] (fun N wr=>∃k:Nat,k<=vs.length/\N= nI nX k/\(∀j,j<k->l[j]? =m[j]?)/\Chg w wr []) (fun N _=>vs.length-(intOf N).toNat)
  case atStart=>exact⟨0,Zj,rfl,fun j r=>Zj,Chg.refl _ _⟩
  case round=>
   obtain⟨k,hk,rfl,X,Y⟩:=hrel;have Q:=hZ X;have f:=hZ Y;clear X Y;by_cases aa:k<vs.length
   .obtain⟨t,z⟩:∃t,l[k]? =nM t:=⟨_,Q9 (by have:=W.o;omega)⟩;obtain⟨s,y⟩:∃s,m[k]? =nM s:=⟨_,Q9 (by have:=V.o;have:=O.o;omega)⟩;obtain⟨v,E,hv,J,_⟩:=HP.o.get z;obtain⟨u,D,K,I,_⟩:=HQ.o.get y
    obtain⟨ga,rfl⟩:∃g,a=nM ⟨g,0,nN⟩:=by
     rcases R.o.one with⟨_,h⟩|⟨g,_,h,_⟩
     .subst h;simp at aa
     .injection h with h;exact⟨g,h⟩
    obtain⟨gb,rfl⟩:∃g,b=nM ⟨g,0,nN⟩:=by
     rcases S.o.one with⟨_,h⟩|⟨g,_,h,_⟩
     .subst h;simp at K
     .injection h with h;exact⟨g,h⟩
    obtain⟨tv,xv,rfl⟩:=J.iface;obtain⟨tu,xu,rfl⟩:=I.iface;have c1:wr.cell? ⟨ga,k,nN⟩=nM (nF tv xv):=f.o.keeps (R.o.cell rfl k _ hv);have c2:wr.cell? ⟨gb,k,nN⟩=nM (nF tu xu):=f.o.keeps (S.o.cell rfl k _ K);have o:=hZ (HI.o t s _ _ E D wr (Qi z) (Qi y) (J.chg f.o Zh) (I.chg f.o Zh));have U:=hZ z;have T:=hZ y;clear z y hv K J I;by_cases i:t=s
    .rw[Vz i]at o;have B:=hZ i;clear i
     go_wp2_with(first
      |(go_at_call 106;refine o.o.mono ?_;rintro e w1 ⟨rfl,n⟩;have A:=hZ n;clear n))
     go_roundw
     case rel=>exact⟨k+1,Zj,by go_num,fun j r=>by
      rcases Nat.lt_succ_iff_lt_or_eq.1 r with h|rfl
      .exact Q.o j h
      .rw[U.o,T.o,B.o],f.o.trans A.o⟩
     case measure=>simp[intOf];omega
    .rw[XI i]at o;have B:=hZ i;clear i
     go_wp2_with(first
      |(go_at_call 106;refine o.o.mono ?_;rintro e w1 ⟨rfl,n⟩;have A:=hZ n;clear n))
     go_ret
     exact⟨Bo (Sd (fun h=>B.o (by
      have:=U.o;rw[h,T.o]at this;injection this with this
      exact this.symm))).symm,f.o.trans A.o⟩
   .have ad:k=vs.length:=by omega
    go_wp2_with fail;go_ret
    exact⟨Bo (Vy (List.ext_getElem? fun j=>by
     by_cases r:j<k
     .exact Q.o j r
     .rw[List.getElem?_eq_none (by have:=W.o;omega),List.getElem?_eq_none (by have:=V.o;have:=O.o;omega)])).symm,f.o⟩
 .have ab:((vs.length:Int) !=(us.length:Int))=true:=by rw[bne_iff_ne];omega
  have P:=hZ x;clear F G p q C M L x Z;go_enter func140,ntmps140;go_wp2_with fail;go_ret;exact⟨Bo (Sd (fun h=>P.o (by rw[h]))).symm,Chg.refl _ _⟩
theorem xT(h:p:=by
 injection e with o p
 subst o;subst p;exact fun _=>Yb):p:=h
theorem xV(h:p:=by go_wp2_with fail;go_ret;exact⟨rfl,by exact cg cR⟩):p:=h
theorem xZ(h:p:=by obtain⟨e,_⟩:=r.leaf (fun l e=>by subst e;simp[AX]at D) (fun ks l e=>by subst e;simp[AX]at D);exact xT):p:=h
theorem we(h:p:=by go_enter func106,ntmps106;go_wp2_with fail;go_quiet(fail);exact xV):p:=h
theorem ZB:∀(k:Nat) (t s:Tr) (v u:Vl) (bv bu:List Nat) (w:Wl),(Ag t).nodes<=k->(Ag t).nodes<=65536->Av t->Av s->AP w t v bv->AP w s u bu->Cl prog 106 #[v,u] w (BU (BQ t s) w):=by
 intro k;induction k with
 |zero=>intro t _ _ _ _ _ _ h;have:=Cv t;omega
 |succ k ih=>
  intro t s v u bv bu w Z hn L F G r
  have al:∀x y N O P Q w',x∈Ab t->y∈Ab s->AP w' x N P->AP w' y O Q->Cl prog 106 #[N,O] w' (BU (BQ x y) w'):=fun x y N O P Q w' d hy z S=>by
   obtain⟨i,hi⟩:=List.mem_iff_getElem?.1 d;have:=CO hi;exact ih x y N O P Q w' Zj Zj (L.items x d) (F.items y hy) z S
  obtain⟨tu,xu,rfl⟩:=r.iface;have HK:=hZ al;clear al ih;by_cases C:AX t=true
  .obtain⟨rfl,rfl⟩:=G.leaf (fun l e=>by subst e;simp[AX]at C) (fun ks l e=>by subst e;simp[AX]at C);have a0:∀(w:Wl),(Instr.typeAssert (nF 131 (nA #[AG t])) 66 131 true).run prog w= .ok (nT #[nA #[AG t],.bool true]) w:=fun _=>Yb;obtain⟨st,sx,ai⟩:∃st sx,AG t= nF st sx:=by cases t<;>first|exact⟨_,_,rfl⟩|simp[AX]at C
   by_cases D:AX s=true
   .obtain⟨e,rfl⟩:=r.leaf (fun l e=>by subst e;simp[AX]at D) (fun ks l e=>by subst e;simp[AX]at D);injection e with o p
    subst o;subst p;have a1:∀(w:Wl),(Instr.typeAssert (nF 131 (nA #[AG s])) 66 131 true).run prog w= .ok (nT #[nA #[AG s],.bool true]) w:=fun _=>Yb;obtain⟨ss,sy,an⟩:∃st sx,AG s= nF st sx:=by cases s<;>first|exact⟨_,_,rfl⟩|simp[AX]at D
    have aj:=fun w=>XJ t s C D L F w;rw[ai]at a0 aj|-;rw[an]at a1 aj|-;obtain⟨B,K⟩:=Ue (BQ t s);rw[<-K]at aj|-;clear ai an K G r L F;go_enter func106,ntmps106;exact xV
   .have M:BQ t s=false:=by
     cases s with
     |list m=>cases t<;>simp[BQ,AX]at C|-
     |obj f m=>cases t<;>simp[BQ,AX]at C|-
     |_=>simp[AX]at D
    have a1:∀(w:Wl),(Instr.typeAssert (nF tu xu) 66 131 true).run prog w= .ok (nT #[nA #[.nilIface],.bool false]) w:=by
     cases s with
     |list m=>
      obtain⟨b,sv,us,R,e,_,_⟩:=r.list;exact xT
     |obj f m=>
      obtain⟨b,sv,sk,us,R,e,_,_⟩:=r.obj;exact xT
     |_=>simp[AX]at D
    rw[ai]at a0|-;rw[M];clear ai M G r L F;go_enter func106,ntmps106;exact xV
  .cases t with
   |list l=>
    obtain⟨b,sv,vs,fs,e,g,_⟩:=G.list;subst e;unfold Jn;have a0:∀(w:Wl),(Instr.typeAssert (nF 71 (nP (nM ⟨b,0,nN⟩))) 66 131 true).run prog w= .ok (nT #[nA #[.nilIface],.bool false]) w:=fun _=>Yb;have a1:∀(w:Wl),(Instr.typeAssert (nF 71 (nP (nM ⟨b,0,nN⟩))) 66 71 true).run prog w= .ok (nT #[nP (nM ⟨b,0,nN⟩),.bool true]) w:=fun _=>Yb;by_cases ag:∃m,s= .list m
    .obtain⟨m,rfl⟩:=ag;obtain⟨E,su,us,R,e,A,_⟩:=r.list;injection e with o p
     subst o;subst p;have a2:∀(w:Wl),(Instr.typeAssert (nF 71 (nP (nM ⟨E,0,nN⟩))) 66 71 true).run prog w= .ok (nT #[nP (nM ⟨E,0,nN⟩),.bool true]) w:=fun _=>Yb;obtain⟨a,c,rfl,_⟩:=g.lst.form;obtain⟨I,J,rfl,_⟩:=A.lst.form;have c1:w.cell? ⟨b,0,nN⟩=nM (nS a vs.length c):=g.blk.cell 0;have V:w.cell? ⟨E,0,nN⟩=nM (nS I us.length J):=A.blk.cell 0;have W:=Bj (.list l);simp only[Ab]at W
     have U:=UD (∀j,Chg w j []->Cl prog 140 #[nS a vs.length c,nS I us.length J,.func (.func 106) #[] #[]] j (BU (ER l m) j)) fun j d=>
      RC l m vs us fs R a I c J j (g.lst.kept d) (A.lst.kept d) (g.at_.chg d Zh) (A.at_.chg d Zh) Zj fun x y N O P Q w' d hy z S=>HK.o x y N O P Q w' d hy z S
     have X:BQ (.list l) (.list m)=ER l m:=by simp only[BQ]
     rw[X];obtain⟨B,K⟩:=Ue (ER l m);rw[<-K]at U|-;clear X K G r L F g A W Z hn C;go_enter func106,ntmps106;go_wp2_with fail
     go_region_held3(fun w'=>w'.cell? ⟨b,0,nN⟩=nM (nS a vs.length c)/\w'.cell? ⟨E,0,nN⟩=nM (nS I us.length J)) (first|exact⟨c1,V⟩|exact⟨H.o.keeps c1,H.o.keeps V⟩)
      (first|(go_at_call 140;refine(U.o _ xX).mono ?_;rintro e w1 ⟨rfl,z⟩;have H:=UD (Chg w w1 []) (ct cR z);clear z))
     all_goals
      go_wp2_with fail;go_ret;exact⟨rfl,by exact cg H.o⟩
    .have a2:∀(w:Wl),(Instr.typeAssert (nF tu xu) 66 71 true).run prog w= .ok (nT #[nP nN,.bool false]) w:=by
      by_cases D:AX s=true
      .exact xZ
      .cases s with
       |list m=>exact absurd ⟨m,rfl⟩ ag
       |obj f m=>
        obtain⟨b,sv,sk,us,R,e,_,_⟩:=r.obj;exact xT
       |_=>simp[AX]at D
     have M:BQ (.list l) s=false:=by
      cases s with
      |list m=>exact absurd ⟨m,rfl⟩ ag
      |_=>simp only[BQ]
     rw[M];clear M G r L F g Z hn C ag;exact we
   |obj ks l=>
    obtain⟨b,sv,sk,vs,fs,e,g,_⟩:=G.obj;subst e;unfold IR;have a0:∀(w:Wl),(Instr.typeAssert (nF 123 (nP (nM ⟨b,0,nN⟩))) 66 131 true).run prog w= .ok (nT #[nA #[.nilIface],.bool false]) w:=fun _=>Yb;have a1:∀(w:Wl),(Instr.typeAssert (nF 123 (nP (nM ⟨b,0,nN⟩))) 66 71 true).run prog w= .ok (nT #[nP nN,.bool false]) w:=fun _=>Yb;have a3:∀(w:Wl),(Instr.typeAssert (nF 123 (nP (nM ⟨b,0,nN⟩))) 66 123 true).run prog w= .ok (nT #[nP (nM ⟨b,0,nN⟩),.bool true]) w:=fun _=>Yb;by_cases ah:∃f m,s= .obj f m
    .obtain⟨f,m,rfl⟩:=ah;obtain⟨E,su,sl,us,R,e,A,_⟩:=r.obj;injection e with o p
     subst o;subst p;have a2:∀(w:Wl),(Instr.typeAssert (nF 123 (nP (nM ⟨E,0,nN⟩))) 66 123 true).run prog w= .ok (nT #[nP (nM ⟨E,0,nN⟩),.bool true]) w:=fun _=>Yb;obtain⟨a,c,rfl,_⟩:=g.lst.form;obtain⟨I,J,rfl,_⟩:=A.lst.form;have ae:=g.keys;have af:=A.keys;obtain⟨ka,kc,rfl,_⟩:=g.keys.form;obtain⟨la,lc,rfl,_⟩:=A.keys.form;have c1:w.cell? ⟨b,0,nN⟩=nM (nS a vs.length c):=g.blk.cell 0;have V:w.cell? ⟨E,0,nN⟩=nM (nS I us.length J):=A.blk.cell 0;have c3:w.cell? ⟨b,1,nN⟩=nM (nS ka (Ad ks).length kc):=g.blk.cell 1;have c4:w.cell? ⟨E,1,nN⟩=nM (nS la (Ad f).length lc):=A.blk.cell 1;have W:=Bj (.obj ks l);have am:=g.len;have ak:f.length<=4294967296:=by simp only[Av]at F;exact Q7 F.1.many Zj
     simp only[Ab]at W
     have U:=UD (∀j,Chg w j []->Cl prog 140 #[nS a vs.length c,nS I us.length J,.func (.func 106) #[] #[]] j (BU (ER l m) j)) fun j d=>
      RC l m vs us fs R a I c J j (g.lst.kept d) (A.lst.kept d) (g.at_.chg d Zh) (A.at_.chg d Zh) Zj fun x y N O P Q w' d hy z S=>HK.o x y N O P Q w' d hy z S
     have Y:=UD (∀j,Chg w j []->Cl prog 41 #[nS ka (Ad ks).length kc,nS la (Ad f).length lc] j (BU (decide (ks=f)) j)) fun j d=>
      (Ix ks f _ _ j (ae.kept d).toRow (af.kept d).toRow Zj Zj).mono fun e w' ⟨z,q,S⟩=>⟨z,by subst S;exact(Chg.refl j []).drewN q⟩
     have X:BQ (.obj ks l) (.obj f m)=(decide (ks=f)&&ER l m):=by simp only[BQ]
     rw[X];obtain⟨B,K⟩:=Ue (ER l m);obtain⟨K1,ab⟩:=Ue ((Ad ks).length);obtain⟨K2,ad⟩:=Ue ((Ad f).length);rw[<-K]at U|-;rw[<-ab]at Y c3;rw[<-ad]at Y c4;by_cases aa:ks=f
     .rw[decide_eq_true aa]at Y|-;rw[Bool.true_and];clear X K G r L F g A W Z hn C ae af am ak aa ab ad;go_enter func106,ntmps106;go_wp2_with fail
      go_region_held3(fun w'=>w'.cell? ⟨b,0,nN⟩=nM (nS a vs.length c)/\w'.cell? ⟨E,0,nN⟩=nM (nS I us.length J)/\w'.cell? ⟨b,1,nN⟩=nM (nS ka K1 kc)/\w'.cell? ⟨E,1,nN⟩=nM (nS la K2 lc))
       (first|exact⟨c1,V,c3,c4⟩|exact⟨H.o.keeps c1,H.o.keeps V,H.o.keeps c3,H.o.keeps c4⟩|exact⟨T.o.keeps c1,T.o.keeps V,T.o.keeps c3,T.o.keeps c4⟩)
       (first
        |(go_at_call 41;refine(Y.o _ xX).mono ?_;rintro e w2 ⟨rfl,z⟩;have T:=UD (Chg w w2 []) (ct cR z);clear z)
        |(go_at_call 140;refine(U.o _ (by exact cg T.o)).mono ?_;rintro e w1 ⟨rfl,z⟩;have H:=UD (Chg w w1 []) (ct T.o z);clear z))
      all_goals
       go_wp2_with fail;go_ret;exact⟨rfl,by exact cg H.o⟩
     .have ao:=UD (∀n,Cl prog 41 #[nS ka K1 kc,nS la K2 lc] (w.drewN n) fun e w'=>e= nR (.bool false)/\∃m,w'=(w.drewN n).drewN m) fun n=>by
       have d:Chg w (w.drewN n) []:=(Chg.refl w []).drewN n;have:=Ix ks f _ _ (w.drewN n) (ae.kept d).toRow (af.kept d).toRow Zj Zj;rw[decide_eq_false aa,<-ab,<-ad]at this;exact this
      rw[decide_eq_false aa];rw[Bool.false_and];clear X K G r L F g A W Z hn C ae af am ak aa ab ad U Y;go_enter func106,ntmps106;go_wp2_with fail;go_quiet((go_at_call 41;exact Calls.quiet_of (ao.o _)));exact xV
    .have a2:∀(w:Wl),(Instr.typeAssert (nF tu xu) 66 123 true).run prog w= .ok (nT #[nP nN,.bool false]) w:=by
      by_cases D:AX s=true
      .exact xZ
      .cases s with
       |obj f m=>exact absurd ⟨f,m,rfl⟩ ah
       |list m=>
        obtain⟨b,sv,us,R,e,_,_⟩:=r.list;exact xT
       |_=>simp[AX]at D
     have M:BQ (.obj ks l) s=false:=by
      cases s with
      |obj f m=>exact absurd ⟨f,m,rfl⟩ ah
      |_=>simp only[BQ]
     rw[M];clear M G r L F g Z hn C ah;exact we
   |null=>simp[AX]at C
   |flag _=>simp[AX]at C
   |num _=>simp[AX]at C
   |text _=>simp[AX]at C
end
section
open _root_.Go.Proofs.Tryz
open Go Go.Shelf Go.RowKit Go.Lib Tree
variable{l:List Ap}{xs:List Vl}{sv:Vl}{w:Wl}
def DX(w:Wl)(sv:Vl)(l:List Ap):Prop:=∃a c,sv= nS a l.length c/\∀i s,l[i]? =nM s->∃b o sk,a=nM ⟨b,o,nN⟩/\Ax w (fun k=>k<w.heap.size) sk (Ad s.keys)/\∀j v,(AI s sk)[j]? =nM v->w.cell? ⟨b,o+i*6+j,nN⟩=nM v
theorem DX.kept{w':Wl}(h:DX w sv l)(d:Chg w w' []):DX w' sv l:=by
 obtain⟨a,c,e,h⟩:=h;refine⟨a,c,e,fun i s p=> ?_⟩;obtain⟨b,o,sk,f,g,m⟩:=h i s p;exact⟨b,o,sk,f,g.kept (d.keepsF (fun _ h=>h)) (fun k n=>Q6 n d.size),fun j v q=>d.keeps (m j v q)⟩
theorem SL(d:As w sv 6 l.length xs)(j:Az w l xs):DX w sv l:=by
 obtain⟨a,c,rfl,_⟩:=d.form;refine⟨a,c,rfl,fun i s f=> ?_⟩;have e:0<l.length:=Nat.lt_of_le_of_lt (Nat.zero_le _) (Qc.1 f).1;obtain⟨b,o,rfl,_⟩:=d.base e ZM;obtain⟨sk,g,h⟩:=Az.item d e j f;exact⟨b,o,sk,rfl,g.rowLt,h⟩
theorem PW{g cap n:Nat}{F:Nat->Prop}{l:List Aw}(f:Ba w (nS (nM ⟨g,0,nN⟩) n cap) 55 6 n xs)(h:AR w F l xs)(e:∀b,F b->b<w.heap.size)(k:n=l.length):DX w (nS (nM ⟨g,0,nN⟩) n cap) (l.map Aw.toI):=by
 refine⟨_,cap,by rw[List.length_map,k],fun i s a=> ?_⟩;rw[List.getElem?_map]at a;obtain⟨p,m,rfl⟩:=Option.map_eq_some_iff.1 a;obtain⟨sk,c,d⟩:=h.get i p m;refine⟨g,0,sk,rfl,c.kept (fun _ _ _=>rfl) e,fun j v o=> ?_⟩;have:=f.cell rfl (6*i+j) v (d j v o);rwa[show 6*i+j=0+i*6+j from by omega]at this
theorem Rf(l:List Ap)(L M:Vl)(w:Wl)(V:DX w L l)(W:DX w M l)(X:l.length<=4294967296)(f:∀s∈l,s.keys.length<=4294967296):
  Cl prog 19 #[L,M,.func (.func 21) #[] #[]] w (BU true w):=by
 obtain⟨a1,c1,rfl,C⟩:=V;obtain⟨a2,T,rfl,D⟩:=W;have Q:=hZ C;have R:=hZ D;have O:=hZ f;obtain⟨n,r⟩:=Ue l.length;have ab:((n:Int) !=(n:Int))=false:=Zh;have P:=hZ r;rw[<-r]at X|-;clear C D f r;go_enter func19,ntmps19;go_wp2_with fail;go_loopw [17] (fun y wr=>∃i:Nat,i<=n/\y= nI nX i/\Chg w wr []) (fun y _=>n-(intOf y).toNat)
 case atStart=>exact⟨0,Zj,rfl,Chg.refl _ _⟩
 case round=>
  obtain⟨i,hi,rfl,F⟩:=hrel;have a:=hZ F;clear F;by_cases aa:i<n
  .obtain⟨s,m⟩:∃s,l[i]? =nM s:=⟨_,Q9 (by have:=P.o;omega)⟩;obtain⟨b,o,sk,rfl,p,t⟩:=Q.o i s m;obtain⟨A,Y,ad,rfl,q,u⟩:=R.o i s m;obtain⟨H,J,rfl,_⟩:=p.cell;obtain⟨I,K,rfl,_⟩:=q.cell;rw[Ao]at p q t u;have c:∀j v,(AI s (nS H s.keys.length J))[j]? =nM v->wr.cell? ⟨b,o+i*6+j,nN⟩=nM v:=fun j v x=>a.o.keeps (t j v x);have d:∀j v,(AI s (nS I s.keys.length K))[j]? =nM v->wr.cell? ⟨A,Y+i*6+j,nN⟩=nM v:=fun j v x=>a.o.keeps (u j v x);have S:=c 0 _ rfl;have c1:=c 1 _ rfl;have T:=c 2 _ rfl;have c3:=c 3 _ rfl;have c4:=c 4 _ rfl;have c5:=c 5 _ rfl;have B:=d 0 _ rfl;have d1:=d 1 _ rfl;have d2:=d 2 _ rfl;have d3:=d 3 _ rfl;have d4:=d 4 _ rfl;have U:=d 5 _ rfl;rw[Nat.add_zero]at S B;have lb:A<wr.heap.size:=World.block_lt_of_cell? wr _ B
   have z:=UD (∀g,Chg wr g []->Cl prog 21 #[nA #[nI nX s.sort,.bool s.flag,nI .u64 s.bits,nG s.text,nI nX s.count,nS H s.keys.length J],nA #[nI nX s.sort,.bool s.flag,nI .u64 s.bits,nG s.text,nI nX s.count,nS I s.keys.length K]] g fun e w'=>e= nR (.bool true)/\Chg g w' []) fun g h=>
    WM s _ _ g _ _ (p.kept ((a.o.trans h).keepsF (fun _ h=>h)) (fun _ h=>h)) (q.kept ((a.o.trans h).keepsF (fun _ h=>h)) (fun _ h=>h)) (fun k f=>Q6 f (a.o.trans h).size) (fun k f=>Q6 f (a.o.trans h).size) (O.o s (Qi m))
   obtain⟨sl,G⟩:=Ue s.keys.length;rw[<-G]at z c5 U;clear m p q t u c d G;go_wp2_with((go_at_call 21;refine(z.o _ xX).mono ?_;rintro e Z ⟨rfl,E⟩;have N:=UD (Chg wr Z []) (ct cR E);clear E));go_roundw
   case rel=>exact⟨i+1,Zj,by go_num,Chg.trans (b:=_) a.o N.o⟩
   case measure=>simp[intOf];omega
  .go_wp2_with fail;go_ret;exact⟨rfl,a.o⟩
end
section
open Go Go.Shelf Go.RowKit Go.Lib Tree Ptr

variable{l:List Ap}{sv:Vl}{w w0:Wl}
structure gW(w0:Wl)(l:List Ap)(i:Nat)(sv:Vl)(w:Wl):Prop where
 ex:∃ys G,Ba w sv 55 6 i ys/\Cr w G (l.take i) ys/\(∀b,G b->w0.heap.size<=b/\b<w.heap.size)/\∀g,sv.ownBlock=nM g->w0.heap.size<=g/\¬G g
 chg:Chg w0 w []
theorem gW.next{wr j t c:Wl}{i g cap:Nat}{s:Ap}{sk:Vl}{ys:List Vl}{G k:Nat->Prop}(w:Chg w0 wr [])(B:Ba wr sv 55 6 i ys)(C:Cr wr G (l.take i) ys)(q:∀b,G b->w0.heap.size<=b/\b<wr.heap.size)(o:∀g,sv.ownBlock=nM g->w0.heap.size<=g/\¬G g)(F:l[i]? =nM s)(p:Chg wr j [])(D:Ba j sk 9 1 s.keys.length (Ad s.keys))(v:SE k sk)(d:∀b,k b->wr.heap.size<=b/\b<j.heap.size)(m:Chg j t [])(u:Ba c (nS (nM ⟨g,0,nN⟩) (i+1) cap) 55 6 (i+1) (ys++AI s sk))(n:Chg t c sv.ownBlock.toList)(E:sv.ownBlock=nM g\/t.heap.size<=g):gW w0 l (i+1) (nS (nM ⟨g,0,nN⟩) (i+1) cap) c:=by
 have L:=p.size;have M:=m.size;have N:=n.size;have K:=w.size;have x:∀y,sv.ownBlock=nM y->y<wr.heap.size:=fun y f=>B.lt f;have J:g<c.heap.size:=u.lt rfl;have H:i3 G wr c:=((p.trans m).none sv.ownBlock.toList|>.trans n).keepsB (fun b a=>(q b a).2) (fun b r a=>(o b (by simpa using r)).2 a);have I:i3 k j c:=((m.none sv.ownBlock.toList).trans n).keepsB (fun b a=>(d b a).2) (fun b r a=>by have z:=x b (by simpa using r);have A:=(d b a).1;omega);refine⟨⟨_,fun b=>G b\/k b,u, ?_,fun b a=> ?_,fun y f=> ?_⟩,((w.trans p).trans m).fresh n (fun y f=>(o y (by simpa using f)).1)⟩
 .rw[Cb F];exact(Cr.kept H (fun _ h=> .inl h) C).append ⟨sk,[],Zh,D.keptF v I,v.mono (fun _ h=> .inr h),rfl⟩
 .rcases a with a|a
  .have:=q b a;omega
  .have:=d b a;omega
 .have e:g=y:=by injection f
  subst e;rcases E with h|h
  .refine⟨(o g h).1,fun a=> ?_⟩;rcases a with a|a
   .exact(o g h).2 a
   .have z:=x g h;have A:=(d g a).1;omega
  .refine⟨Zj,fun a=> ?_⟩;rcases a with a|a
   .have:=q g a;omega
   .have:=d g a;omega
theorem gW.done{n:Nat}(h:gW w0 l n sv w)(j:n=l.length):∃ys G,Ba w sv 55 6 l.length ys/\SE G sv/\Cr w G l ys/\∀b,G b->w0.heap.size<=b/\b<w.heap.size:=by
 obtain⟨xs,G,d,f,g,i⟩:=h.ex;subst j;rw[List.take_length]at f;refine⟨xs,fun b=>G b\/sv.ownBlock=nM b,d,fun b o n c e=> ?_,Cr.kept (fun _ _=>rfl) (fun _ h=> .inl h) f,fun b a=> ?_⟩
 .rw[e];exact .inr rfl
 .rcases a with a|a
  .exact g b a
  .exact⟨(i b a).1,d.lt a⟩
theorem gW.start{B c:Nat}(a:Ba w (nS (nM ⟨B,0,nN⟩) 0 c) 55 6 0 [])(f:w0.heap.size<=B)(h:Chg w0 w []):gW w0 l 0 (nS (nM ⟨B,0,nN⟩) 0 c) w:=
 ⟨⟨[],fun _=>False,a,rfl,fun b (d:False)=>d.elim,fun g e=>⟨by simp[Vl.ownBlock]at e;omega,id⟩⟩,h⟩
end
section
open _root_.Go.Proofs.Tryz
open Go Go.Shelf Go.RowKit Go.Lib Tree Ptr
variable{e:Ending}{ts:List BY}{bs:List Nat}{W b d n:Nat}{p:Prop}{t u:Tr}{a v:Vl}{w w':Wl}
def Je(s:BY)(n:Nat):Vl:=match bL s n with
 |some k=> nT #[nI nX k,.bool true]
 |none=> nT #[nI nX 0,.bool false]
theorem SO{l:List UInt8}{i:Int}(h:Lib.atoiAll l= .ok i): -9223372036854775808<=i/\i<=9223372036854775807:=by
 unfold Lib.atoiAll at h;split at h
 .cases h
 .simp only at h;split at h
  .cases h
  .cases h
  .split at h
   .cases h
   .split at h
    .cases h
    .injection h with h
     subst h;split<;>omega
theorem xW(h:p:=by refine bodyPost_ret (results_tmp2 rfl _ _ _) rfl ⟨by unfold Je;rw[f.o];rfl,by exact cg c.o⟩):p:=h
theorem wd(h:p:=by have:=q.o.symm.trans h;injection this with e;subst e;omega):p:=h
theorem Gl(s:BY)(n:Nat)(w:Wl)(o:Br w)(E:s.size<=281474976710656)(r:n<=9223372036854775807):
  Cl prog 138 #[nG s,nI nX n] w fun e w'=>e= nR (Je s n)/\Chg w w' []:=by
 by_cases u:∃i,Lib.atoiAll s.data.toList= .ok i
 .obtain⟨i,hi⟩:=u
  have l:=UD (Cl prog 174 #[nG s] w fun e w'=>e= nR (nT #[nI nX i,.nilIface])/\Chg w w' []) ((Rh s E w o).mono fun e w' ⟨⟨j,v,B,b⟩,a⟩=>by
   rcases b with⟨rfl,b⟩|⟨_,b⟩
   .rw[hi]at b;injection b with b;subst b;exact⟨B,a⟩
   .exact absurd hi (b i))
  have D:=SO hi;have C:=UD (∀p,Chg w p []->Cl prog 35 #[nI nX i] p fun e w'=>e= nR (nG ⟨(Lib.itoa i).toArray⟩)/\Chg p w' []) fun p I=>Ri i D.1 D.2 p (o.kept I);have q:=hZ hi;clear hi o;by_cases K:i<0
  .have d:bL s n=nN:=FN r fun j h g=>wd
   have f:=hZ d;clear d;go_enter func138,ntmps138
   go_wp2_with(first
      |(go_at_call 174;refine l.o.mono ?_;rintro e y ⟨rfl,a⟩;have c:=hZ a;clear a))
   exact xW
  .by_cases L:(n:Int)<=i
   .have d:bL s n=nN:=FN r fun j h g k=>wd
    have f:=hZ d;clear d;go_enter func138,ntmps138
    go_wp2_with(first
      |(go_at_call 174;refine l.o.mono ?_;rintro e y ⟨rfl,a⟩;have c:=hZ a;clear a))
    exact xW
   .by_cases A:(⟨(Lib.itoa i).toArray⟩:BY)=s
    .have F:bL s n=nM i.toNat:=WD q.o Zj Zj (by rw[<-A]);have G:=hZ F;clear F;go_enter func138,ntmps138
     go_wp2_with(first
      |(go_at_call 174;refine l.o.mono ?_;rintro e y ⟨rfl,a⟩;have c:=hZ a;clear a)
      |(go_at_call 35;refine(C.o _ (by exact cg c.o)).mono ?_;rintro e w2 ⟨rfl,m⟩;have z:=UD (Chg w w2 []) (ct c.o m);clear m))
     refine bodyPost_ret (results_tmp2 rfl _ _ _) rfl ⟨by unfold Je;rw[G.o];simp;omega,by exact cg z.o⟩
    .have d:bL s n=nN:=FN r fun j h g k e=>by have:=q.o.symm.trans h;injection this with H;subst H;exact A (DK (by simpa using e))
     have J:(Lib.itoa i==s.toList)=false:=by rw[Qq,Lib.toList_data];intro e;exact A (DK (by simpa using e))
     have f:=hZ d;clear d;go_enter func138,ntmps138
     go_wp2_with(first
      |(go_at_call 174;refine l.o.mono ?_;rintro e y ⟨rfl,a⟩;have c:=hZ a;clear a)
      |(go_at_call 35;refine(C.o _ (by exact cg c.o)).mono ?_;rintro e w2 ⟨rfl,m⟩;have z:=UD (Chg w w2 []) (ct c.o m);clear m))
     refine bodyPost_ret (results_tmp2 rfl _ _ _) rfl ⟨by unfold Je;rw[f.o];rfl,by exact cg z.o⟩
 .have d:bL s n=nN:=FN r fun j h=>absurd ⟨j,h⟩ u;have f:=hZ d
  have l:=UD (Cl prog 174 #[nG s] w fun e w'=>(∃i t x,e= nR (nT #[nI nX i,nF t x]))/\Chg w w' []) ((Rh s E w o).mono fun e w' ⟨⟨j,v,B,b⟩,a⟩=>by
   rcases b with⟨_,b⟩|⟨⟨t,x,rfl⟩,_⟩
   .exact absurd ⟨_,b⟩ u
   .exact⟨⟨j,t,x,B⟩,a⟩)
  clear d u o;go_enter func138,ntmps138
  go_wp2_with(first
      |(go_at_call 174;refine l.o.mono ?_;rintro e y ⟨⟨i,t,x,rfl⟩,a⟩;have c:=hZ a;clear a))
  exact xW
def Cz(w:Wl)(t:Tr)(v:Vl)(bs:List Nat)(ts:List BY)(e:Ending)(w':Wl):Prop:=
 Chg w w' []/\match Ah t ts with
  |some u=>∃a b rest,e= nR (nT #[a,.bool true])/\Ir w t v bs ts u a b rest
  |none=>e= nR (nT #[.nilIface,.bool false])
theorem Cz.none(h:Ah t ts=Option.none)(a:Chg w w' [])(b:e= nR (nT #[.nilIface,.bool false])):Cz w t v bs ts e w':=by
 unfold Cz;rw[h];exact⟨a,b⟩
theorem Cz.some{b rest:List Nat}(c:Ir w t v bs ts u a b rest)(d:Chg w w' [])(f:e= nR (nT #[a,.bool true])):Cz w t v bs ts e w':=by
 unfold Cz;rw[c.lead];exact⟨d,a,b,rest,f,c⟩
theorem Iw{t u:Tr}:∀{ts:List BY} {k:Nat} {s:BY},Ah t (ts.take k)=Option.some u->ts[k]? =Option.some s->Dy u s=Option.none->Ah t ts=Option.none
 |[],k,s,_,b,_=>by simp at b
 |a::r,0,s,h,b,c=>by
  simp only[List.take_zero,Ah]at h;injection h with h
  subst h;simp at b;subst b;simp[Ah,c]
 |a::r,k+1,s,h,b,c=>by
  simp only[List.take_succ_cons,Ah]at h|-;cases d:Dy t a with
  |none=>rfl
  |some y=>
   rw[d]at h;simp only[Option.bind_some]at h|-;exact Iw h (by simpa using b) c
theorem Md(h:AX u=true)(s:BY):Dy u s=Option.none:=by
 cases u<;>first|rfl|simp[AX]at h
theorem xU(h:p:=by
 go_roundw
 case rel=>
  refine⟨k+1,x,X,aa++rest,Zj,by go_num, ?_, ?_⟩
  .rw[Cb K.o];exact V.o
  .exact cg (j.o.trans r.o)
 case measure=>simp[intOf];omega):p:=h
theorem xY(h:p:=by
 have:=h.blk.cell 0;rw[N]at this;simp only[Qa]at this;injection this with this
 exact this.symm):p:=h
theorem x7(h:p:=by refine bodyPost_ret (results_tmp2 rfl _ _ _) rfl (Cz.none J.o ?_ rfl);exact cg (j.o.trans r.o)):p:=h
theorem LJ(W:Nat)(t:Tr)(v n m uv:Vl)(bs:List Nat)(F:Nat->Prop)(sl:Vl)(ts:List BY)(w:Wl)(hL:Br w)(hB:Ac w W [v,n,m,uv] 69)(hP:AP w t v bs)(hf:Bt t)(hr:Ax w F sl (Ad ts))(ai:DR ts)(ak:∀s∈ts,s.size<=16777216)(hn:ts.length<=4294967296):
  Cl prog 135 #[nP (nM ⟨W,0,nN⟩),sl] w (Cz w t v bs ts):=by
 obtain⟨a,c,rfl,ad⟩:=hr.cell;rw[Ao];obtain⟨tv,xv,rfl⟩:=hP.iface;have av:w.cell? ⟨W,0,nN⟩=Option.some (nF tv xv):=hB.cell 0;have HC:=hZ ad;have HL:=hZ hL;have am:=hZ ai;have an:=hZ ak;have HF:=hZ hf;have HP:=hZ hP;clear hr hL ad ai ak hB hP hf;go_enter func135,ntmps135;go_wp2_with fail;go_loopw [6,22] (fun v6 ab wr=>∃(k:Nat) (u:Tr) (bu rest:List Nat),k<=ts.length/\ab= nI nX k/\Ir w t (nF tv xv) bs (ts.take k) u v6 bu rest/\Chg w wr []) (fun _ ab _=>ts.length-(intOf ab).toNat)
 case atStart=>exact⟨0,t,bs,[],Zj,rfl,Ir.here HP.o,Chg.refl _ _⟩
 case round=>
  obtain⟨k,u,bu,rest,hk,rfl,z,P⟩:=hrel;by_cases ap:k<ts.length
  .obtain⟨s,U⟩:∃s,ts[k]? =Option.some s:=⟨_,Q9 ap⟩;obtain⟨gb,go,rfl,_,ae⟩:=HC.o k (nG s) (by simp[Ad,U]);have aq:=P.keeps ae;have aj:=Qi U;have au:=an.o s aj;have j:=hZ P;have B:=hZ z;have K:=hZ U;have D:Bt u:=HF.o.lead z.lead;have y:=z.at_;clear P U ae z;by_cases p:AX u=true
   .obtain⟨rfl,_⟩:=y.leaf (fun l e=>by subst e;simp[AX]at p) (fun ks l e=>by subst e;simp[AX]at p);have a0:∀(w:Wl),(Instr.typeAssert (nF 131 (nA #[AG u])) 66 123 true).run prog w= .ok (nT #[nP nN,.bool false]) w:=fun _=>Yb;have a1:∀(w:Wl),(Instr.typeAssert (nF 131 (nA #[AG u])) 66 71 true).run prog w= .ok (nT #[nP nN,.bool false]) w:=fun _=>Yb;have J:=hZ (Iw B.o.lead K.o (Md p s));clear y D p;go_wp2_with fail;refine bodyPost_ret (results_tmp2 rfl _ _ _) rfl (Cz.none J.o ?_ rfl);exact cg j.o
   .cases u with
    |list l=>
     obtain⟨b,sv,vs,fs,rfl,h,_⟩:=y.list;have ah:l.length<=65536:=by have:=D.many;simp only[Ab]at this;omega
     have I:=h.at_.length;unfold Jn;have a0:∀(w:Wl),(Instr.typeAssert (nF 71 (nP (Option.some ⟨b,0,Option.none⟩))) 66 123 true).run prog w= .ok (nT #[nP Option.none,.bool false]) w:=fun _=>Yb;have a1:∀(w:Wl),(Instr.typeAssert (nF 71 (nP (Option.some ⟨b,0,Option.none⟩))) 66 71 true).run prog w= .ok (nT #[nP (Option.some ⟨b,0,Option.none⟩),.bool true]) w:=fun _=>Yb;obtain⟨L,M,rfl,_⟩:=h.lst.form;have c1:wr.cell? ⟨b,0,nN⟩=Option.some (nS L vs.length M):=j.o.keeps (h.blk.cell 0)
     have H:=UD (∀f,Chg wr f []->Cl prog 138 #[nG s,nI nX vs.length] f fun e w'=>e= nR (Je s l.length)/\Chg f w' []) fun f q=>by
      rw[I];exact Gl s l.length f (HL.o.kept (j.o.trans q)) Zj Zj
     cases hi:bL s l.length with
     |none=>
      have R:Dy (.list l) s=Option.none:=by simp[Dy,D6,hi]
      have J:=hZ (Iw B.o.lead K.o R);unfold Je at H;rw[hi]at H;clear y D p h ah I hi R
      go_wp2_with(first
       |(go_at_call 138;refine(H.o _ xX).mono ?_;rintro e G ⟨rfl,o⟩;have r:=UD (Chg wr G []) (ct cR o);clear o))
      exact x7
     |some i=>
      have af:=Jf hi;obtain⟨x,q⟩:∃x,(Ab (.list l))[i]? =Option.some x:=⟨_,Q9 af⟩;obtain⟨b',g,n',Y,vx,X,aa,ti,d,N,O,E⟩:=Fx y (by show D6 (.list l) s=_;simp only[D6];exact hi) q;unfold Jn at d;injection d with et d
      subst et;injection d with d
      injection d with d
      injection d with d
      subst d
      have C:(Vl.slice L vs.length M)= nS (Option.some ⟨g,0,nN⟩) n' Y:=by
       exact xY
      injection C with C e5 e6
      subst C;have Z:=j.o.keeps O;obtain⟨tx,xx,rfl⟩:=E.at_.iface;have V:=hZ (B.o.snoc E);unfold Je at H;rw[hi]at H;have ao:i<vs.length:=Zj;clear y D p h ah I hi af q E N O e5 e6
      go_wp2_with(first
       |(go_at_call 138;refine(H.o _ xX).mono ?_;rintro e G ⟨rfl,o⟩;have r:=UD (Chg wr G []) (ct cR o);have d1:=r.o.keeps c1;have d2:=r.o.keeps Z;clear o))
      exact xU
    |obj ks l=>
     obtain⟨b,sv,sk,vs,fs,rfl,h,_⟩:=y.obj;have Q:=D.good;simp only[Av]at Q;have I:=h.at_.length;unfold IR;have a0:∀(w:Wl),(Instr.typeAssert (nF 123 (nP (Option.some ⟨b,0,Option.none⟩))) 66 123 true).run prog w= .ok (nT #[nP (Option.some ⟨b,0,Option.none⟩),.bool true]) w:=fun _=>Yb;obtain⟨L,M,rfl,_⟩:=h.lst.form;have c1:wr.cell? ⟨b,0,nN⟩=Option.some (nS L vs.length M):=j.o.keeps (h.blk.cell 0)
     have S:=UD (∀f,Chg wr f []->Cl prog 131 #[nP (Option.some ⟨b,0,nN⟩),nG s] f fun e w'=>∃i:Nat,e= nR (nT #[nI nX i,.bool (C4 ks s)])/\Chg f w' []/\Hr ks s i/\i<=ks.length) fun f q=>
      Pl ks s b _ sk f (h.blk.kept (j.o.trans q)) (h.keys.kept (j.o.trans q)) Q.1 (am.o.right s aj) Zj
     cases A:C4 ks s with
     |false=>
      have R:Dy (.obj ks l) s=Option.none:=by simp[Dy,D6,A]
      have J:=hZ (Iw B.o.lead K.o R);rw[A]at S;clear y D p h Q I A R
      go_wp2_with(first
       |(go_at_call 131;refine(S.o _ xX).mono ?_;rintro e G ⟨i,rfl,o,_,_⟩;have r:=UD (Chg wr G []) (ct cR o);clear o))
      exact x7
     |true=>
      obtain⟨pi,T⟩:=Ue (A5 ks s);have ar:pi<ks.length:=by rw[T];exact Dk (Cp.1 A)
      obtain⟨x,q⟩:∃x,(Ab (.obj ks l))[pi]? =Option.some x:=⟨_,Q9 (by simp only[Ab];omega)⟩;obtain⟨b',g,n',Y,vx,X,aa,ti,d,N,O,E⟩:=Fx y (by show D6 (.obj ks l) s=_;simp only[D6];rw[Qr A,<-T]) q;unfold IR at d;injection d with et d
      subst et;injection d with d
      injection d with d
      injection d with d
      subst d
      have C:(Vl.slice L vs.length M)= nS (Option.some ⟨g,0,nN⟩) n' Y:=by
       exact xY
      injection C with C e5 e6
      subst C;have Z:=j.o.keeps O;obtain⟨tx,xx,rfl⟩:=E.at_.iface;have V:=hZ (B.o.snoc E)
      have al:=UD (∀f,Chg wr f []->Cl prog 131 #[nP (Option.some ⟨b,0,nN⟩),nG s] f fun e w'=>e= nR (nT #[nI nX pi,.bool true])/\Chg f w' []) fun f q=>
       (S.o f q).mono fun e w' ⟨i,o,h2,h3,_⟩=>⟨by rw[o,A,(h3.yes A).1,T],h2⟩
      have ao:pi<vs.length:=by have:=Q.2.1;omega
      clear y D p h Q I A q E N O e5 e6 S T
      go_wp2_with(first
       |(go_at_call 131;refine(al.o _ xX).mono ?_;rintro e G ⟨rfl,o⟩;have r:=UD (Chg wr G []) (ct cR o);have d1:=r.o.keeps c1;have d2:=r.o.keeps Z;clear o))
      exact xU
    |null=>simp[AX]at p
    |flag _=>simp[AX]at p
    |num _=>simp[AX]at p
    |text _=>simp[AX]at p
  .have ag:ts.take k=ts:=Qn Zj;rw[ag]at z;have B:=hZ z;have j:=hZ P;obtain⟨tu,xu,rfl⟩:=z.at_.iface;clear z P ag;go_wp2_with fail;refine bodyPost_ret (results_tmp2 rfl _ _ _) rfl (Cz.some B.o ?_ rfl);exact cg j.o
def F8(w:Wl)(t:Tr)(v:Vl)(bs:List Nat)(ts:List BY)(e:Ending)(w':Wl):Prop:=
 Chg w w' []/\match Ah t ts with
  |some u=>∃a b rest,e= nR a/\Ir w t v bs ts u a b rest
  |none=>e=By 4
theorem Jx(h:Ah t ts=nM u):F8 w t v bs ts=fun e w'=>Chg w w' []/\∃a b rest,e= nR a/\Ir w t v bs ts u a b rest:=by
 funext e w';unfold F8;rw[h]
theorem Jw(h:Ah t ts=nN):F8 w t v bs ts=fun e w'=>Chg w w' []/\e=By 4:=by
 funext e w';unfold F8;rw[h]
theorem Iv(h:Ah t ts=nM u):Cz w t v bs ts=fun e w'=>Chg w w' []/\∃a b rest,e= nR (nT #[a,.bool true])/\Ir w t v bs ts u a b rest:=by
 funext e w';unfold Cz;rw[h]
theorem U4(h:Ah t ts=nN):Cz w t v bs ts=fun e w'=>Chg w w' []/\e= nR (nT #[.nilIface,.bool false]):=by
 funext e w';unfold Cz;rw[h]
theorem LI(W:Nat)(t:Tr)(v n m z:Vl)(bs:List Nat)(F:Nat->Prop)(y:Vl)(ts:List BY)(w:Wl)(o:Br w)(l:Ac w W [v,n,m,z] 69)(p:AP w t v bs)(r:Bt t)(k:Ax w F y (Ad ts))(j:DR ts)(x:∀s∈ts,s.size<=16777216):
  Cl prog 105 #[nP (nM ⟨W,0,nN⟩),y] w (F8 w t v bs ts):=by
 obtain⟨a,c,rfl,_⟩:=k.cell;have f:=hZ (LJ W t v n m z bs F _ ts w o l p r k j x (Q7 j.many Zj));clear o l p r k j x;cases h:Ah t ts with
 |none=>
  rw[U4 h]at f;rw[Jw h];clear h;go_enter func105,ntmps105
  go_wp2_with(first
   |(go_at_call 135;refine f.o.mono ?_;rintro e B ⟨d,rfl⟩;have g:=hZ d;clear d)
   |(go_at_call 30;refine(Bu _ _).mono ?_;rintro e w2 ⟨q,b⟩;unfold By at q;subst q;have i:=hZ b;clear b))
  exact⟨rfl,g.o.trans i.o,rfl⟩
 |some u=>
  rw[Iv h]at f;rw[Jx h];clear h;go_enter func105,ntmps105
  go_wp2_with(first
   |(go_at_call 135;refine f.o.mono ?_;rintro e B ⟨d,D,A,rest,rfl,b⟩;obtain⟨C,E,rfl⟩:=b.at_.iface;have g:=hZ d;have i:=hZ b;clear d b)
   |(go_at_call 30;refine(Bv _ _).mono ?_;rintro e w2 ⟨rfl,rfl⟩))
  go_ret;exact⟨g.o,_,A,rest,rfl,i.o⟩
def Hi(n b d:Nat):Bool:=decide (n<=65536)&&decide (b<=2097152)&&decide (d<=512)
def Dh(W:Nat)(v a:Vl)(n b d:Nat)(w:Wl)(e:Ending)(w':Wl):Prop:=
 if Hi n b d=true then e= nR (nT #[])/\Ac w' W [v,nI nX n,nI nX b,a] 69/\Chg w w' [W]else e=By 3/\Chg w w' []
theorem En(h:Hi n b d=true):Dh W v a n b d=fun w e w'=>e= nR (nT #[])/\Ac w' W [v,nI nX n,nI nX b,a] 69/\Chg w w' [W]:=by
 funext w e w';unfold Dh;rw[Qr h]
theorem DO(h:Hi n b d=false):Dh W v a n b d=fun w e w'=>e=By 3/\Chg w w' []:=by
 funext w e w';unfold Dh;rw[Qs (by simp[h])]
theorem KB:Hi n b d=true↔n<=65536/\b<=2097152/\d<=512:=by unfold Hi;simp[and_assoc]
theorem E9(h:¬(n<=65536/\b<=2097152/\d<=512)):Hi n b d=false:=by
 cases a:Hi n b d with
 |false=>rfl
 |true=>exact absurd (KB.1 a) h
def KT(w:Wl)(a:Vl)(m c:Nat):Prop:=(a= .nilIface/\m=0/\c=0)\/∃u b,AP w u a b/\Av u/\(Ag u).within=true/\m=(Ag u).nodes/\c=(Ag u).bytes
theorem wf(h:p:=by simp only[List.set_cons_succ,List.set_cons_zero];rw[<-G1.o,<-G2.o]):p:=h
theorem Jl(W:Nat)(v uv:Vl)(N B:Nat)(x:Tr)(vx wv:Vl)(bx:List Nat)(m c n' Y C:Nat)(ta:Option Addr)(r tc:Nat)(w:Wl)(hB:Ac w W [v,nI nX N,nI nX B,uv] 69)(hx:AP w x vx bx)(hg:Av x)(hw:(Ag x).within=true)(ag:KT w wv m c)(hN:N<=65536)(ah:B<=2097152)(hk:C<=16777216)(ai:r<=65536)(G:n'+m=N+(Ag x).nodes)(F:Y+c=B+(Ag x).bytes+C):
  Cl prog 129 #[nP (nM ⟨W,0,nN⟩),nS ta r tc,vx,wv,nI nX C] w (Dh W v uv n' Y (r+(Ag x).depth) w):=by
 obtain⟨tx,xx,rfl⟩:=hx.iface;have af:=Ar hw;obtain⟨x1,x2,x3⟩:=af;obtain⟨f,args,hm,Z⟩:=MD _ x _ bx w (Q8 _) hg hw hx;have K:=hZ hm;have H:=hZ Z;have X:=hZ hB;have n:=hB.lt;have L:∀j,w.frozen? ⟨W,j,nN⟩=false:=fun j=>hB.frozen j;obtain⟨sz,ab⟩:=Ue (Ag x);rw[<-ab]at H G F x1 x2 x3|-;clear hm Z hB hg hw;rcases ag with⟨rfl,rfl,rfl⟩|⟨u,bu,hu,ae,ad,rfl,rfl⟩
 .clear hx ab;have t:(n':Int)=((N:Int)+(sz.nodes:Int)):=Zj;have y:(Y:Int)=((B:Int)+((sz.bytes:Int)+(C:Int))):=Zj;have I:((r+sz.depth:Nat):Int)=((r:Int)+(sz.depth:Int)):=Zj;have G1:=hZ t;have G2:=hZ y;have c1:w.cell? ⟨W,1,nN⟩=nM (nI nX N):=X.o.cell 1;have i:w.cell? ⟨W,2,nN⟩=nM (nI nX B):=X.o.cell 2;by_cases q:n'<=65536
  .have j1:((N:Int)+(sz.nodes:Int))<=65536:=by omega
   by_cases A:Y<=2097152
   .have j2:((B:Int)+((sz.bytes:Int)+(C:Int)))<=2097152:=by omega
    by_cases J:r+sz.depth<=512
    .have j3:((r:Int)+(sz.depth:Int))<=512:=by omega
     rw[En (KB.2 ⟨q,A,J⟩)];clear t y I G F q A J;go_enter func129,ntmps129
     go_wp2_with(first
    |(refine Am rfl _ _ _ rfl _ rfl f args K.o _ H.o ?_;rintro e o ⟨rfl,d⟩;refine⟨_,rfl, ?_⟩;have a:=hZ d;unfold Jv;have R:=a.o.keeps c1;have S:=a.o.keeps i;have V:=Q6 n a.o.size;have U:∀j,o.frozen? ⟨W,j,nN⟩=false:=fun j=>(a.o.frozen (p:=⟨W,j,nN⟩) n Zh).trans (L j);clear d)
    |(go_at_call 30;refine(Bv _ _).mono ?_;rintro e w4 ⟨rfl,rfl⟩))
     go_end0
     refine⟨rfl, ?_, ?_⟩
     .refine(((X.o.kept a.o).set 1 (nI nX ((N:Int)+(sz.nodes:Int)))).set 2 (nI nX ((B:Int)+((sz.bytes:Int)+(C:Int))))).eq ?_;exact wf
     .have Z:Chg w o [W]:=a.o.none _
      (have:=Z;exact oq)
    .have j3:¬(((r:Int)+(sz.depth:Int))<=512):=by omega
     rw[DO (E9 (fun h=>J h.2.2))];clear t y I G F q A J;go_enter func129,ntmps129
     go_wp2_with(first
    |(refine Am rfl _ _ _ rfl _ rfl f args K.o _ H.o ?_;rintro e o ⟨rfl,d⟩;refine⟨_,rfl, ?_⟩;have a:=hZ d;unfold Jv;have R:=a.o.keeps c1;have S:=a.o.keeps i;have V:=Q6 n a.o.size;have U:∀j,o.frozen? ⟨W,j,nN⟩=false:=fun j=>(a.o.frozen (p:=⟨W,j,nN⟩) n Zh).trans (L j);clear d)
    |(go_at_call 30;refine(Bu _ _).mono ?_;rintro e E ⟨l,k⟩;unfold By at l;subst l;have s:=UD (Chg w E []) (Chg.trans (b:=_) (by(have:=a.o;exact oq)) k);clear k))
     exact⟨rfl,rfl,s.o⟩
   .have j2:¬(((B:Int)+((sz.bytes:Int)+(C:Int)))<=2097152):=by omega
    rw[DO (E9 (fun h=>A h.2.1))];clear t y I G F q A;go_enter func129,ntmps129
    go_wp2_with(first
    |(refine Am rfl _ _ _ rfl _ rfl f args K.o _ H.o ?_;rintro e o ⟨rfl,d⟩;refine⟨_,rfl, ?_⟩;have a:=hZ d;unfold Jv;have R:=a.o.keeps c1;have S:=a.o.keeps i;have V:=Q6 n a.o.size;have U:∀j,o.frozen? ⟨W,j,nN⟩=false:=fun j=>(a.o.frozen (p:=⟨W,j,nN⟩) n Zh).trans (L j);clear d)
    |(go_at_call 30;refine(Bu _ _).mono ?_;rintro e E ⟨l,k⟩;unfold By at l;subst l;have s:=UD (Chg w E []) (Chg.trans (b:=_) (by(have:=a.o;exact oq)) k);clear k))
    exact⟨rfl,rfl,s.o⟩
  .have j1:¬(((N:Int)+(sz.nodes:Int))<=65536):=by omega
   rw[DO (E9 (fun h=>q h.1))];clear t y I G F q;go_enter func129,ntmps129
   go_wp2_with(first
    |(refine Am rfl _ _ _ rfl _ rfl f args K.o _ H.o ?_;rintro e o ⟨rfl,d⟩;refine⟨_,rfl, ?_⟩;have a:=hZ d;unfold Jv;have R:=a.o.keeps c1;have S:=a.o.keeps i;have V:=Q6 n a.o.size;have U:∀j,o.frozen? ⟨W,j,nN⟩=false:=fun j=>(a.o.frozen (p:=⟨W,j,nN⟩) n Zh).trans (L j);clear d)
    |(go_at_call 30;refine(Bu _ _).mono ?_;rintro e E ⟨l,k⟩;unfold By at l;subst l;have s:=UD (Chg w E []) (Chg.trans (b:=_) (by(have:=a.o;exact oq)) k);clear k))
   exact⟨rfl,rfl,s.o⟩
 .obtain⟨tu,xu,rfl⟩:=hu.iface;have aa:=Ar ad;obtain⟨u1,u2,u3⟩:=aa;have HU:=UD (∀wx,Chg w wx []->JB (nF tu xu) (Ag u) wx) fun wx h=>MD _ u _ bu wx (Q8 _) ae ad (hu.chg h Zh);obtain⟨M,aa⟩:=Ue (Ag u);rw[<-aa]at HU G F u1 u2 u3;clear hu ae ad hx ab aa;have t:(n':Int)=((N:Int)+((sz.nodes:Int)-(M.nodes:Int))):=Zj;have y:(Y:Int)=((B:Int)+((sz.bytes:Int)+(C:Int)-(M.bytes:Int))):=Zj;have I:((r+sz.depth:Nat):Int)=((r:Int)+(sz.depth:Int)):=Zj;have G1:=hZ t;have G2:=hZ y;have c1:w.cell? ⟨W,1,nN⟩=nM (nI nX N):=X.o.cell 1;have i:w.cell? ⟨W,2,nN⟩=nM (nI nX B):=X.o.cell 2;by_cases q:n'<=65536
  .have j1:((N:Int)+((sz.nodes:Int)-(M.nodes:Int)))<=65536:=by omega
   by_cases A:Y<=2097152
   .have j2:((B:Int)+((sz.bytes:Int)+(C:Int)-(M.bytes:Int)))<=2097152:=by omega
    by_cases J:r+sz.depth<=512
    .have j3:((r:Int)+(sz.depth:Int))<=512:=by omega
     rw[En (KB.2 ⟨q,A,J⟩)];clear t y I G F q A J;go_enter func129,ntmps129
     go_wp2_with(first
    |(refine Am rfl _ _ _ rfl _ rfl f args K.o _ H.o ?_;rintro e o ⟨rfl,d⟩;refine⟨_,rfl, ?_⟩;have a:=hZ d;unfold Jv;obtain⟨T,Q,D,i⟩:=HU.o o d;have P:=hZ D;have O:=hZ i;clear D i;clear d)
    |(refine Am rfl _ _ _ rfl _ rfl T Q P.o _ O.o ?_;rintro e w2 ⟨rfl,z⟩;refine⟨_,rfl, ?_⟩;have g:=UD (Chg w w2 []) (a.o.trans z);unfold Jv;have R:=g.o.keeps c1;have S:=g.o.keeps i;have V:=Q6 n g.o.size;have U:∀j,w2.frozen? ⟨W,j,nN⟩=false:=fun j=>(g.o.frozen (p:=⟨W,j,nN⟩) n Zh).trans (L j);clear z)
    |(go_at_call 30;refine(Bv _ _).mono ?_;rintro e w4 ⟨rfl,rfl⟩))
     go_end0
     refine⟨rfl, ?_, ?_⟩
     .refine(((X.o.kept g.o).set 1 (nI nX ((N:Int)+((sz.nodes:Int)-(M.nodes:Int))))).set 2 (nI nX ((B:Int)+((sz.bytes:Int)+(C:Int)-(M.bytes:Int))))).eq ?_;exact wf
     .have Z:Chg w w2 [W]:=g.o.none _
      (have:=Z;exact oq)
    .have j3:¬(((r:Int)+(sz.depth:Int))<=512):=by omega
     rw[DO (E9 (fun h=>J h.2.2))];clear t y I G F q A J;go_enter func129,ntmps129
     go_wp2_with(first
    |(refine Am rfl _ _ _ rfl _ rfl f args K.o _ H.o ?_;rintro e o ⟨rfl,d⟩;refine⟨_,rfl, ?_⟩;have a:=hZ d;unfold Jv;obtain⟨T,Q,D,i⟩:=HU.o o d;have P:=hZ D;have O:=hZ i;clear D i;clear d)
    |(refine Am rfl _ _ _ rfl _ rfl T Q P.o _ O.o ?_;rintro e w2 ⟨rfl,z⟩;refine⟨_,rfl, ?_⟩;have g:=UD (Chg w w2 []) (a.o.trans z);unfold Jv;have R:=g.o.keeps c1;have S:=g.o.keeps i;have V:=Q6 n g.o.size;have U:∀j,w2.frozen? ⟨W,j,nN⟩=false:=fun j=>(g.o.frozen (p:=⟨W,j,nN⟩) n Zh).trans (L j);clear z)
    |(go_at_call 30;refine(Bu _ _).mono ?_;rintro e E ⟨l,k⟩;unfold By at l;subst l;have s:=UD (Chg w E []) (Chg.trans (b:=_) (by(have:=g.o;exact oq)) k);clear k))
     exact⟨rfl,rfl,s.o⟩
   .have j2:¬(((B:Int)+((sz.bytes:Int)+(C:Int)-(M.bytes:Int)))<=2097152):=by omega
    rw[DO (E9 (fun h=>A h.2.1))];clear t y I G F q A;go_enter func129,ntmps129
    go_wp2_with(first
    |(refine Am rfl _ _ _ rfl _ rfl f args K.o _ H.o ?_;rintro e o ⟨rfl,d⟩;refine⟨_,rfl, ?_⟩;have a:=hZ d;unfold Jv;obtain⟨T,Q,D,i⟩:=HU.o o d;have P:=hZ D;have O:=hZ i;clear D i;clear d)
    |(refine Am rfl _ _ _ rfl _ rfl T Q P.o _ O.o ?_;rintro e w2 ⟨rfl,z⟩;refine⟨_,rfl, ?_⟩;have g:=UD (Chg w w2 []) (a.o.trans z);unfold Jv;have R:=g.o.keeps c1;have S:=g.o.keeps i;have V:=Q6 n g.o.size;have U:∀j,w2.frozen? ⟨W,j,nN⟩=false:=fun j=>(g.o.frozen (p:=⟨W,j,nN⟩) n Zh).trans (L j);clear z)
    |(go_at_call 30;refine(Bu _ _).mono ?_;rintro e E ⟨l,k⟩;unfold By at l;subst l;have s:=UD (Chg w E []) (Chg.trans (b:=_) (by(have:=g.o;exact oq)) k);clear k))
    exact⟨rfl,rfl,s.o⟩
  .have j1:¬(((N:Int)+((sz.nodes:Int)-(M.nodes:Int)))<=65536):=by omega
   rw[DO (E9 (fun h=>q h.1))];clear t y I G F q;go_enter func129,ntmps129
   go_wp2_with(first
    |(refine Am rfl _ _ _ rfl _ rfl f args K.o _ H.o ?_;rintro e o ⟨rfl,d⟩;refine⟨_,rfl, ?_⟩;have a:=hZ d;unfold Jv;obtain⟨T,Q,D,i⟩:=HU.o o d;have P:=hZ D;have O:=hZ i;clear D i;clear d)
    |(refine Am rfl _ _ _ rfl _ rfl T Q P.o _ O.o ?_;rintro e w2 ⟨rfl,z⟩;refine⟨_,rfl, ?_⟩;have g:=UD (Chg w w2 []) (a.o.trans z);unfold Jv;have R:=g.o.keeps c1;have S:=g.o.keeps i;have V:=Q6 n g.o.size;have U:∀j,w2.frozen? ⟨W,j,nN⟩=false:=fun j=>(g.o.frozen (p:=⟨W,j,nN⟩) n Zh).trans (L j);clear z)
    |(go_at_call 30;refine(Bu _ _).mono ?_;rintro e E ⟨l,k⟩;unfold By at l;subst l;have s:=UD (Chg w E []) (Chg.trans (b:=_) (by(have:=g.o;exact oq)) k);clear k))
   exact⟨rfl,rfl,s.o⟩
end
end Go.Proofs.YtamgbmcchhmojaaGreatDoor
